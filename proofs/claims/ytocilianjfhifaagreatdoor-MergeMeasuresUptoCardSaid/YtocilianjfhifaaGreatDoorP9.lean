/- Part 9 of the proof (N10, N11, N12, N13, N14); no condition. -/
import Derived.Test.YtocilianjfhifaaGreatDoorP8
set_option linter.unusedVariables false
/- Gain of both sides, and equal lists of holes; no condition but the variables that are laid, the bounds on lengths, and cover.tuple's contract. -/
set_option linter.unusedSimpArgs false
set_option maxRecDepth 8000
namespace Go.Proofs.YtocilianjfhifaaGreatDoor.Cov
open Go Go.Proofs Go.Proofs.YtocilianjfhifaaGreatDoor.Sm Go.Proofs.YtocilianjfhifaaGreatDoor.Bins Go.RowKit

/-- a model and two coverages in three blocks -/
structure Three (h H : Hp) (m : Mo) (a b : Cvr) (ab bb : Nat) : Prop where
  gm : H[h.length]? = some (.live 2 [encM m])
  ga : H[ab]? = some (.live 4 [encV a])
  gb : H[bb]? = some (.live 4 [encV b])
  hx : ∃ x, H = h ++ x
theorem Three.mk' (h : Hp) (m : Mo) (a b : Cvr) : Three h (h ++ [.live 2 [encM m]] ++ [.live 4 [encV a]] ++ [.live 4 [encV b]]) m a b (h ++ [ABlk.live 2 [encM m]]).length (h ++ [ABlk.live 2 [encM m]] ++ [ABlk.live 4 [encV a]]).length :=
  ⟨below_get (below_get (top_get _ _)), below_get (top_get _ _), top_get _ _, ⟨_, by rw [List.append_assoc, List.append_assoc]⟩⟩
def gainP (a b : Cvr) (g : Gl) : Bool := decide (countG b g > 0) && !decide (countG a g > 0)
def gainN (m : Mo) (a b : Cvr) : Nat := if fitsB m a = true ∧ fitsB m b = true then (goals m).countP (gainP a b) else 0
theorem gain_prog (G : Nat → AV) (hG : GOk G) (hT : TupleOk G) (m : Mo) (a b : Cvr) (hm : MoOk m) (ha : CvOk a) (hb : CvOk b) (h : Hp) : PCall (En G) 31 [.agg (encM m), .agg (encV a), .agg (encV b)] h (.int .i64 (gainN m a b)) := by
  refine ACalls.pure0 rfl ?_
  refine acalls_of (H := Hint.none) (enM G) Tryz.func31 rfl (by kernel_rfl) (by kernel_rfl) (Nat.le_of_ble_eq_true (by kernel_rfl)) ?_
  show awp _ _ _ _ _ (endQ _ [.tmp 6] _)
  have t := Three.mk' h m a b
  simp -implicitDefEqProofs only [awp_seq, awp_reg, seqQ_n, WW_one, WW_nil, none_md, none_fz, frz_nil, ownOp, wc_app, wcont_s, upd_app, ev_tmp, ev_const, av_int, x_assign, x_box, x_load, holdsO_some, frameOf_zero, frameOf_succ, ↓reduceIte, Nat.reduceEqDiff, Option.getD_some, Bool.not_false, enP, bxM, bxV]
  generalize h ++ [ABlk.live 2 [encM m]] ++ [ABlk.live 4 [encV a]] ++ [ABlk.live 4 [encV b]] = H at t ⊢
  generalize (h ++ [ABlk.live 2 [encM m]] ++ [ABlk.live 4 [encV a]]).length = bb at t ⊢
  generalize (h ++ [ABlk.live 2 [encM m]]).length = ab at t ⊢
  simp -implicitDefEqProofs only [WW_one, none_md, none_fz, frz_nil, ownOp, wc_app, wcont_s, upd_app, ev_tmp, ev_func, x_load, X1_call, callA_fn, holdsO_ofO, List.map_cons, List.map_nil, List.append_nil, ↓reduceIte, Nat.reduceEqDiff, Option.getD_some, Bool.not_false, enP, ldM t.gm, ldV t.ga]
  refine (fits_prog G hG hT m a hm ha _).use ?_
  simp -implicitDefEqProofs only [WW_one, WW_guardE, GX_some, gdstO, none_md, none_fz, frz_nil, ownOp, wc_app, wcont_s, upd_app, ev_tmp, x_move, x_un, holdsO_ofO, un_not, ↓reduceIte, Option.getD_some, Bool.not_false]
  cases hfa : fitsB m a
  · simp -implicitDefEqProofs only [awp_seq, awp_reg, awp_ret, awp_cond, seqQ_n, seqQ_r, end_r, cond_t, WW_one, WW_nil, WW_guardE, GX_some, gdstO, G1_ft, none_md, none_fz, frz_nil, ownOp, wc_app, wcont_s, upd_app, aput, ev_tmp, ev_const, av_int, av_bool, x_assign, x_pick, pick_t, ↓reduceIte, Nat.reduceEqDiff, Option.getD_some, Bool.not_false]
    exact ⟨by unfold gainN; rw [if_neg (by simp [hfa])]; rfl, t.hx⟩
  simp -implicitDefEqProofs only [WW_guardE, GX_some, gdstO, G1_ff, none_md, none_fz, frz_nil, ownOp, wc_app, wcont_s, upd_app, ev_tmp, ev_func, x_load, X1_call, callA_fn, holdsO_ofO, List.map_cons, List.map_nil, List.append_nil, ↓reduceIte, Nat.reduceEqDiff, Option.getD_some, Bool.not_true, Bool.not_false, enP, ldM t.gm, ldV t.gb]
  refine (fits_prog G hG hT m b hm hb _).use ?_
  simp -implicitDefEqProofs only [awp_cond, seqQ_n, WW_one, WW_nil, WW_guardE, GX_some, gdstO, G1_ff, none_md, none_fz, frz_nil, ownOp, wc_app, wcont_s, upd_app, ev_tmp, ev_const, av_bool, x_pick, pick_f, x_un, holdsO_ofO, un_not, ↓reduceIte, Nat.reduceEqDiff, Option.getD_some, Bool.not_false]
  cases hfb : fitsB m b
  · simp -implicitDefEqProofs only [awp_seq, awp_reg, awp_ret, seqQ_n, seqQ_r, end_r, cond_t, WW_one, WW_nil, none_md, none_fz, frz_nil, ownOp, wc_app, wcont_s, upd_app, ev_const, av_int, x_assign, ↓reduceIte, Option.getD_some, Bool.not_false]
    exact ⟨by unfold gainN; rw [if_neg (by simp [hfb])]; rfl, t.hx⟩
  have hg := good_of (fitsB_good hfa)
  have hgl := goals_len hg
  have hia : ∀ g ∈ goals m, InR a g := fun g hg' => inR_of hfa hg'
  have hib : ∀ g ∈ goals m, InR b g := fun g hg' => inR_of hfb hg'
  simp -implicitDefEqProofs only [awp_seq, awp_reg, awp_skip, seqQ_n, cond_f, WW_one, WW_nil, none_md, none_fz, frz_nil, ownOp, wc_app, wcont_s, upd_app, ev_tmp, ev_const, ev_func, av_int, x_assign, x_load, X1_call, callA_fn, holdsO_ofO, List.map_cons, List.map_nil, List.append_nil, ↓reduceIte, Nat.reduceEqDiff, Option.getD_some, Bool.not_true, Bool.not_false, enP, ldM t.gm]
  refine (goals_prog G m hm hg _).use ?_
  have hrn : gainN m a b = (goals m).countP (gainP a b) := by unfold gainN; rw [if_pos ⟨hfa, hfb⟩]
  rw [hrn]
  generalize goals m = gs at hgl hia hib ⊢
  simp -implicitDefEqProofs only [awp_block, seqQ_n, WW_one, WW_nil, none_md, none_fz, frz_nil, ownOp, wc_app, wcont_s, upd_app, ev_tmp, ev_const, av_int, x_move, x_len, holdsO_ofO, ↓reduceIte, Option.getD_some, Bool.not_false, enP, ln101, List.length_map]
  refine awp_loop (fun n F H' => ∃ k, n + k = gs.length ∧ F 4 = .ptr ab 0 0 ∧ F 5 = .ptr bb 0 0 ∧ F 7 = .int .i64 ((gs.take k).countP (gainP a b) : Nat) ∧ F 21 = .sl (nm gs) 4 (gs.map encG) ∧ F 22 = .int .i64 gs.length ∧ F 23 = .int .i64 (k : Nat) ∧ H'[ab]? = some (.live 4 [encV a]) ∧ H'[bb]? = some (.live 4 [encV b]) ∧ ∃ x, H' = h ++ x) gs.length ⟨0, by simp, by simp -implicitDefEqProofs only [upd_app, ↓reduceIte, Nat.reduceEqDiff], by simp -implicitDefEqProofs only [upd_app, ↓reduceIte, Nat.reduceEqDiff], by simp -implicitDefEqProofs only [upd_app, ↓reduceIte, Nat.reduceEqDiff]; rfl, by simp -implicitDefEqProofs only [upd_app, ↓reduceIte, Nat.reduceEqDiff], by simp -implicitDefEqProofs only [upd_app, ↓reduceIte, Nat.reduceEqDiff], by simp -implicitDefEqProofs only [upd_app, ↓reduceIte]; rfl, t.ga, t.gb, t.hx⟩ ?_
  rintro n F H' ⟨k, hk, f4, f5, f7, f21, f22, f23, ga, gb, x, hx⟩
  simp -implicitDefEqProofs only [awp_seq, awp_reg, awp_cond, seqQ_n, WW_one, WW_nil, none_md, none_fz, frz_nil, ownOp, wc_app, wcont_s, upd_app, ev_tmp, x_bin, holdsO_ofO, bin_lss, ↓reduceIte, Option.getD_some, Bool.not_false, enP, f22, f23]
  refine cond_of (fun hc => ?_) (fun hc => ?_)
  · have hk' : k < gs.length := by simpa using hc
    have hmem := List.getElem_mem hk'
    have hcl : (gs.take k).countP (gainP a b) ≤ k := Nat.le_trans (List.countP_le_length) (by simp; omega)
    have hct := countP_take (gainP a b) gs k hk'
    have hx1 : ∃ y, H' ++ [ABlk.live 4 [encG gs[k]]] = h ++ y := ⟨x ++ _, by rw [hx, List.append_assoc]⟩
    simp -implicitDefEqProofs only [awp_seq, awp_block, awp_reg, awp_skip, seqQ_n, WW_one, WW_nil, none_md, none_fz, frz_nil, ownOp, wc_app, wcont_s, wcont_n, upd_app, ev_tmp, ev_func, x_alloc, x_load, x_store, x_indexAddr, X1_call, callA_fn, holdsO_some, holdsO_ofO, holdsO_ofS, List.map_cons, List.map_nil, List.append_nil, ↓reduceIte, Nat.reduceEqDiff, Option.getD_some, Bool.not_false, enP, ix101, Option.getD_none, f4, f5, f21, f23, ix_map hk', load_mapA ag108 sz108 encG_len hk', al60, st60 _ _ [.bool false, .int .i64 0, .sl .nil 0 [], .int .i64 0] rfl, ldG (top_get H' _), ldV (below_get (x := .live 4 [encG gs[k]]) gb)]
    refine (reached_prog1 G b gs[k] (hib _ hmem) _).use ?_
    simp -implicitDefEqProofs only [WW_one, WW_guardE, GX_some, gdstO, none_md, none_fz, frz_nil, ownOp, wc_app, wcont_s, upd_app, ev_tmp, x_move, ↓reduceIte, Option.getD_some, Bool.not_false]
    cases hpb : decide (countG b gs[k] > 0)
    · have hp : gainP a b gs[k] = false := by unfold gainP; rw [hpb]; rfl
      simp -implicitDefEqProofs only [awp_reg, awp_skip, awp_cond, seqQ_n, blk_n, rnd_n, cond_f, WW_one, WW_nil, WW_guardE, GX_some, gdstO, G1_tf, none_md, none_fz, frz_nil, ownOp, wc_app, wcont_s, upd_app, aput, ev_tmp, ev_const, av_int, av_bool, x_move, x_pick, pick_f, x_bin, holdsO_ofO, bin_add, ↓reduceIte, Nat.reduceEqDiff, Option.getD_some, Bool.not_false, enP, f23, wrap_succ (show k < 9223372036854775807 by omega)]
      refine ⟨n - 1, by omega, k + 1, by omega, f4, f5, ?_, f21, f22, rfl, below_get ga, below_get gb, hx1⟩
      rw [hct, hp]; exact f7
    simp -implicitDefEqProofs only [WW_guardE, GX_some, gdstO, G1_tt, none_md, none_fz, frz_nil, ownOp, wc_app, wcont_s, upd_app, ev_tmp, ev_func, x_load, X1_call, callA_fn, holdsO_ofO, List.map_cons, List.map_nil, List.append_nil, ↓reduceIte, Nat.reduceEqDiff, Option.getD_some, Bool.not_false, enP, f4, ldG (top_get H' _), ldV (below_get (x := .live 4 [encG gs[k]]) ga)]
    refine (reached_prog1 G a gs[k] (hia _ hmem) _).use ?_
    simp -implicitDefEqProofs only [awp_cond, seqQ_n, WW_one, WW_nil, WW_guardE, GX_some, gdstO, G1_tt, none_md, none_fz, frz_nil, ownOp, wc_app, wcont_s, upd_app, ev_tmp, ev_const, av_bool, x_pick, pick_t, x_un, holdsO_ofO, un_not, ↓reduceIte, Nat.reduceEqDiff, Option.getD_some, Bool.not_false]
    cases hpa : decide (countG a gs[k] > 0)
    · have hp : gainP a b gs[k] = true := by unfold gainP; rw [hpb, hpa]; rfl
      simp -implicitDefEqProofs only [awp_reg, seqQ_n, blk_n, rnd_n, cond_t, WW_one, WW_nil, none_md, none_fz, frz_nil, ownOp, wc_app, wcont_s, upd_app, ev_tmp, ev_const, av_int, x_move, x_assign, x_bin, holdsO_ofO, bin_add, ↓reduceIte, Nat.reduceEqDiff, Option.getD_some, Bool.not_false, enP, f7, f23, wrap_succ (show k < 9223372036854775807 by omega), wrap_succ (show (gs.take k).countP (gainP a b) < 9223372036854775807 by omega)]
      refine ⟨n - 1, by omega, k + 1, by omega, f4, f5, ?_, f21, f22, rfl, below_get ga, below_get gb, hx1⟩
      rw [hct, hp]; rfl
    · have hp : gainP a b gs[k] = false := by unfold gainP; rw [hpb, hpa]; rfl
      simp -implicitDefEqProofs only [awp_reg, awp_skip, seqQ_n, blk_n, rnd_n, cond_f, WW_one, WW_nil, none_md, none_fz, frz_nil, ownOp, wc_app, wcont_s, upd_app, ev_tmp, ev_const, av_int, x_move, x_bin, holdsO_ofO, bin_add, ↓reduceIte, Nat.reduceEqDiff, Option.getD_some, Bool.not_true, Bool.not_false, enP, f23, wrap_succ (show k < 9223372036854775807 by omega)]
      refine ⟨n - 1, by omega, k + 1, by omega, f4, f5, ?_, f21, f22, rfl, below_get ga, below_get gb, hx1⟩
      rw [hct, hp]; exact f7
  · have hk' : ¬ k < gs.length := by simpa using hc
    rw [List.take_of_length_le (by omega)] at f7
    simp -implicitDefEqProofs only [awp_seq, awp_reg, awp_ret, awp_exit, seqQ_n, seqQ_e, blk_e, rnd_e, end_r, WW_one, WW_nil, none_md, none_fz, frz_nil, ownOp, wc_app, wcont_s, upd_app, ev_tmp, x_move, x_assign, ↓reduceIte, Nat.reduceEqDiff, Option.getD_some, Bool.not_false, f7]
    exact ⟨trivial, x, hx⟩
theorem gain_ref (G : Nat → AV) (m : Mo) (a b : Cvr) (hm : MoOk m) (ha : CvOk a) (hb : CvOk b) (h : Hp) : PCall (En G) 32 [.agg (encM m), .agg (encV a), .agg (encV b)] h (.int .i64 (gainN m a b)) := by
  refine ACalls.pure0 rfl ?_
  refine acalls_of (H := Hint.none) (enM G) Tryz.func32 rfl (by kernel_rfl) (by kernel_rfl) (Nat.le_of_ble_eq_true (by kernel_rfl)) ?_
  show awp _ _ _ _ _ (endQ _ [.tmp 6] _)
  have t := Three.mk' h m a b
  simp -implicitDefEqProofs only [awp_seq, awp_reg, seqQ_n, WW_one, WW_nil, none_md, none_fz, frz_nil, ownOp, wc_app, wcont_s, upd_app, ev_tmp, ev_const, av_int, x_assign, x_box, x_load, holdsO_some, frameOf_zero, frameOf_succ, ↓reduceIte, Nat.reduceEqDiff, Option.getD_some, Bool.not_false, enP, bxM, bxV]
  generalize h ++ [ABlk.live 2 [encM m]] ++ [ABlk.live 4 [encV a]] ++ [ABlk.live 4 [encV b]] = H at t ⊢
  generalize (h ++ [ABlk.live 2 [encM m]] ++ [ABlk.live 4 [encV a]]).length = bb at t ⊢
  generalize (h ++ [ABlk.live 2 [encM m]]).length = ab at t ⊢
  simp -implicitDefEqProofs only [WW_one, none_md, none_fz, frz_nil, ownOp, wc_app, wcont_s, upd_app, ev_tmp, ev_func, X1_call, callA_fn, holdsO_ofO, List.map_cons, List.map_nil, List.append_nil, ↓reduceIte, Option.getD_some, Bool.not_false, ldM t.gm]
  refine (model_ref G m hm _).use ?_
  simp -implicitDefEqProofs only [WW_one, WW_guardE, GX_some, gdstO, none_md, none_fz, frz_nil, ownOp, wc_app, wcont_s, upd_app, ev_tmp, ev_const, av_int, x_move, x_bin, holdsO_ofO, bin_neq, ↓reduceIte, Option.getD_some, Bool.not_false, enP, bne]
  cases h1 : (modelE m == 0)
  · simp -implicitDefEqProofs only [awp_seq, awp_reg, awp_ret, awp_cond, seqQ_n, seqQ_r, end_r, cond_t, WW_one, WW_nil, WW_guardE, GX_some, gdstO, G1_ft, none_md, none_fz, frz_nil, ownOp, wc_app, wcont_s, upd_app, aput, ev_tmp, ev_const, av_int, av_bool, x_move, x_assign, x_pick, pick_t, ↓reduceIte, Nat.reduceEqDiff, Option.getD_some, Bool.not_false]
    have : fitsB m a = false := by unfold fitsB; rw [h1]; rfl
    exact ⟨by unfold gainN; rw [if_neg (by simp [this])]; rfl, t.hx⟩
  simp -implicitDefEqProofs only [WW_guardE, GX_some, gdstO, G1_ff, none_md, none_fz, frz_nil, ownOp, wc_app, wcont_s, upd_app, ev_tmp, ev_func, x_load, X1_call, callA_fn, holdsO_ofO, List.map_cons, List.map_nil, List.append_nil, ↓reduceIte, Nat.reduceEqDiff, Option.getD_some, Bool.not_true, Bool.not_false, enP, ldM t.gm, ldV t.ga]
  refine (fits_ref G m a hm ha _).use ?_
  simp -implicitDefEqProofs only [WW_one, WW_guardE, GX_some, gdstO, G1_ff, none_md, none_fz, frz_nil, ownOp, wc_app, wcont_s, upd_app, ev_tmp, ev_const, av_bool, x_move, x_pick, pick_f, x_un, holdsO_ofO, un_not, ↓reduceIte, Nat.reduceEqDiff, Option.getD_some, Bool.not_false]
  cases hfa : fitsB m a
  · simp -implicitDefEqProofs only [awp_seq, awp_reg, awp_ret, awp_cond, seqQ_n, seqQ_r, end_r, cond_t, WW_one, WW_nil, WW_guardE, GX_some, gdstO, G1_ft, none_md, none_fz, frz_nil, ownOp, wc_app, wcont_s, upd_app, aput, ev_tmp, ev_const, av_int, av_bool, x_assign, x_pick, pick_t, ↓reduceIte, Nat.reduceEqDiff, Option.getD_some, Bool.not_false]
    exact ⟨by unfold gainN; rw [if_neg (by simp [hfa])]; rfl, t.hx⟩
  simp -implicitDefEqProofs only [WW_guardE, GX_some, gdstO, G1_ff, none_md, none_fz, frz_nil, ownOp, wc_app, wcont_s, upd_app, ev_tmp, ev_func, x_load, X1_call, callA_fn, holdsO_ofO, List.map_cons, List.map_nil, List.append_nil, ↓reduceIte, Nat.reduceEqDiff, Option.getD_some, Bool.not_true, Bool.not_false, enP, ldM t.gm, ldV t.gb]
  refine (fits_ref G m b hm hb _).use ?_
  simp -implicitDefEqProofs only [awp_cond, seqQ_n, WW_one, WW_nil, WW_guardE, GX_some, gdstO, G1_ff, none_md, none_fz, frz_nil, ownOp, wc_app, wcont_s, upd_app, ev_tmp, ev_const, av_bool, x_pick, pick_f, x_un, holdsO_ofO, un_not, ↓reduceIte, Nat.reduceEqDiff, Option.getD_some, Bool.not_false]
  cases hfb : fitsB m b
  · simp -implicitDefEqProofs only [awp_seq, awp_reg, awp_ret, seqQ_n, seqQ_r, end_r, cond_t, WW_one, WW_nil, none_md, none_fz, frz_nil, ownOp, wc_app, wcont_s, upd_app, ev_const, av_int, x_assign, ↓reduceIte, Option.getD_some, Bool.not_false]
    exact ⟨by unfold gainN; rw [if_neg (by simp [hfb])]; rfl, t.hx⟩
  have hg := good_of (fitsB_good hfa)
  have hgl := goals_len hg
  have hia : ∀ g ∈ goals m, InR a g := fun g hg' => inR_of hfa hg'
  have hib : ∀ g ∈ goals m, InR b g := fun g hg' => inR_of hfb hg'
  have hpa0 : ∀ g ∈ goals m, 0 ≤ countG a g := fun g hg' => count_pos hfa hg'
  simp -implicitDefEqProofs only [awp_seq, awp_reg, awp_skip, seqQ_n, cond_f, WW_one, WW_nil, none_md, none_fz, frz_nil, ownOp, wc_app, wcont_s, upd_app, ev_tmp, ev_const, ev_func, av_int, x_assign, x_load, X1_call, callA_fn, holdsO_ofO, List.map_cons, List.map_nil, List.append_nil, ↓reduceIte, Nat.reduceEqDiff, Option.getD_some, Bool.not_true, Bool.not_false, enP, ldM t.gm]
  refine (goals_ref G m hm hg _).use ?_
  have hrn : gainN m a b = (goals m).countP (gainP a b) := by unfold gainN; rw [if_pos ⟨hfa, hfb⟩]
  rw [hrn]
  generalize goals m = gs at hgl hia hib hpa0 ⊢
  simp -implicitDefEqProofs only [awp_seq, awp_block, awp_reg, seqQ_n, WW_one, WW_nil, none_md, none_fz, frz_nil, ownOp, wc_app, wcont_s, upd_app, ev_tmp, ev_const, av_int, x_assign, ↓reduceIte, Option.getD_some, Bool.not_false]
  refine awp_loop (fun n F H' => ∃ k, n + k = gs.length ∧ F 4 = .ptr ab 0 0 ∧ F 5 = .ptr bb 0 0 ∧ F 7 = .int .i64 ((gs.take k).countP (gainP a b) : Nat) ∧ F 8 = .sl (nm gs) 4 (gs.map encG) ∧ F 9 = .int .i64 (k : Nat) ∧ H' = H) gs.length ⟨0, by simp, by simp -implicitDefEqProofs only [upd_app, ↓reduceIte, Nat.reduceEqDiff], by simp -implicitDefEqProofs only [upd_app, ↓reduceIte, Nat.reduceEqDiff], by simp -implicitDefEqProofs only [upd_app, ↓reduceIte, Nat.reduceEqDiff]; rfl, by simp -implicitDefEqProofs only [upd_app, ↓reduceIte, Nat.reduceEqDiff], by simp -implicitDefEqProofs only [upd_app, ↓reduceIte]; rfl, rfl⟩ ?_
  rintro n F H' ⟨k, hk, f4, f5, f7, f8, f9, rfl⟩
  simp -implicitDefEqProofs only [awp_seq, awp_reg, awp_cond, seqQ_n, WW_one, WW_nil, none_md, none_fz, frz_nil, ownOp, wc_app, wcont_s, upd_app, ev_tmp, x_move, x_bin, x_len, holdsO_ofO, bin_lss, ↓reduceIte, Nat.reduceEqDiff, Option.getD_some, Bool.not_false, enP, ln103, f8, f9, List.length_map]
  refine cond_of (fun hc => ?_) (fun hc => ?_)
  · have hk' : k < gs.length := by simpa using hc
    have hmem := List.getElem_mem hk'
    have hcl : (gs.take k).countP (gainP a b) ≤ k := Nat.le_trans (List.countP_le_length) (by simp; omega)
    have hct := countP_take (gainP a b) gs k hk'
    simp -implicitDefEqProofs only [awp_seq, awp_block, awp_skip, seqQ_n]
    refine awp_draw (by kernel_rfl) ?_
    simp -implicitDefEqProofs only [YO_f, dc_app, dcont_s, DD_one, y_move, y_load, y_bin, y_indexAddr, Y1_call, callP_fn, none_md, upd_app, ev_tmp, ev_const, ev_func, av_int, x_load, x_bin, x_indexAddr, holdsO_ofO, List.map_cons, List.map_nil, List.append_nil, ↓reduceIte, Nat.reduceEqDiff, Nat.reduceAdd, Option.getD_some, enP, ix103, f4, f8, f9, ix_map hk', load_mapA ag112 sz112 encG_len hk', ldV t.ga]
    refine ⟨_, count_ref1 G a gs[k] (hia _ hmem) _, ?_⟩
    try simp -implicitDefEqProofs only [YO_f, dc_app, dcont_s, DD_one, DD_guardE, GY_some, y_move, gdstO, none_md, upd_app, ev_tmp, holdsO_ofO, bin_eql, ↓reduceIte, Nat.reduceAdd, Option.getD_some]
    rw [zero_pos (hpa0 _ hmem)]
    cases hpa : decide (countG a gs[k] > 0)
    · simp -implicitDefEqProofs only [YO_f, dc_app, dcont_s, DD_guardE, GY_some, GD_tt, y_move, y_load, y_bin, y_indexAddr, Y1_call, callP_fn, gdstO, none_md, upd_app, ev_tmp, ev_const, ev_func, av_int, x_load, x_bin, x_indexAddr, holdsO_ofO, List.map_cons, List.map_nil, List.append_nil, ↓reduceIte, Nat.reduceEqDiff, Nat.reduceAdd, Option.getD_some, Bool.not_false, enP, ix103, f5, f8, f9, ix_map hk', load_mapA ag112 sz112 encG_len hk', ldV t.gb]
      refine ⟨_, count_ref1 G b gs[k] (hib _ hmem) _, ?_⟩
      try simp -implicitDefEqProofs only [YO_f, dc_app, dcont_s, DD_nil, DD_one, y_pick, awp_cond, seqQ_n, none_md, upd_app, ev_tmp, ev_const, av_bool, x_pick, pick_t, holdsO_ofO, bin_gtr, ↓reduceIte, Nat.reduceEqDiff, Nat.reduceAdd, Option.getD_some]
      cases hpb : decide (countG b gs[k] > 0)
      · have hp : gainP a b gs[k] = false := by unfold gainP; rw [hpb]; rfl
        simp -implicitDefEqProofs only [awp_reg, awp_skip, seqQ_n, blk_n, rnd_n, cond_f, WW_one, WW_nil, none_md, none_fz, frz_nil, ownOp, wc_app, wcont_s, upd_app, ev_tmp, ev_const, av_int, x_move, x_assign, x_bin, holdsO_ofO, bin_add, ↓reduceIte, Nat.reduceEqDiff, Option.getD_some, Bool.not_false, enP, f9, wrap_succ (show k < 9223372036854775807 by omega)]
        refine ⟨n - 1, by omega, k + 1, by omega, f4, f5, ?_, f8, rfl, trivial⟩
        rw [hct, hp]; exact f7
      · have hp : gainP a b gs[k] = true := by unfold gainP; rw [hpb, hpa]; rfl
        simp -implicitDefEqProofs only [awp_reg, seqQ_n, blk_n, rnd_n, cond_t, WW_one, WW_nil, none_md, none_fz, frz_nil, ownOp, wc_app, wcont_s, upd_app, ev_tmp, ev_const, av_int, x_move, x_assign, x_bin, holdsO_ofO, bin_add, ↓reduceIte, Nat.reduceEqDiff, Option.getD_some, Bool.not_false, enP, f7, f9, wrap_succ (show k < 9223372036854775807 by omega), wrap_succ (show (gs.take k).countP (gainP a b) < 9223372036854775807 by omega)]
        refine ⟨n - 1, by omega, k + 1, by omega, f4, f5, ?_, f8, rfl, trivial⟩
        rw [hct, hp]; rfl
    · have hp : gainP a b gs[k] = false := by unfold gainP; rw [hpa]; simp
      simp -implicitDefEqProofs only [YO_f, dc_app, dcont_s, DD_nil, DD_one, DD_guardE, GY_some, GD_tf, y_pick, awp_reg, awp_skip, awp_cond, seqQ_n, blk_n, rnd_n, cond_f, WW_one, WW_nil, gdstO, none_md, none_fz, frz_nil, ownOp, wc_app, wcont_s, upd_app, aput, ev_tmp, ev_const, av_int, av_bool, x_move, x_assign, x_pick, pick_f, x_bin, holdsO_ofO, bin_add, ↓reduceIte, Nat.reduceEqDiff, Nat.reduceAdd, Option.getD_some, Bool.not_true, Bool.not_false, enP, f9, wrap_succ (show k < 9223372036854775807 by omega)]
      refine ⟨n - 1, by omega, k + 1, by omega, f4, f5, ?_, f8, rfl, trivial⟩
      rw [hct, hp]; exact f7
  · have hk' : ¬ k < gs.length := by simpa using hc
    rw [List.take_of_length_le (by omega)] at f7
    simp -implicitDefEqProofs only [awp_seq, awp_reg, awp_ret, awp_exit, seqQ_n, seqQ_e, blk_e, rnd_e, end_r, WW_one, WW_nil, none_md, none_fz, frz_nil, ownOp, wc_app, wcont_s, upd_app, ev_tmp, x_move, x_assign, ↓reduceIte, Nat.reduceEqDiff, Option.getD_some, Bool.not_false, f7]
    exact ⟨trivial, t.hx⟩
end Go.Proofs.YtocilianjfhifaaGreatDoor.Cov
/- Equal lists of holes; no condition but the bounds on lengths. -/
set_option linter.unusedSimpArgs false
set_option maxRecDepth 8000
namespace Go.Proofs.YtocilianjfhifaaGreatDoor.Cov
open Go Go.Proofs Go.Proofs.YtocilianjfhifaaGreatDoor.Sm Go.Proofs.YtocilianjfhifaaGreatDoor.Bins Go.RowKit

theorem encH0 (g : Gl) : (encH g)[0]? = some (.bool g.cross) := rfl
theorem encH1 (g : Gl) : (encH g)[1]? = some (.int .i64 (g.idx : Int)) := rfl
theorem encH2 (g : Gl) : (encH g)[2]? = some (.sl g.bm 1 (g.bins.map encI)) := rfl
def eqG (a b : Gl) : Bool := (a.cross == b.cross) && ((a.idx : Int) == (b.idx : Int)) && eqL a.bins b.bins
def eqH : List Gl → List Gl → Bool
  | [], [] => true
  | a :: ws, b :: bs => eqG a b && eqH ws bs
  | _, _ => false
theorem eqH_len : ∀ {a b : List Gl}, eqH a b = true → a.length = b.length
  | [], [], _ => rfl
  | a :: ws, b :: bs, h => by
    simp only [eqH, Bool.and_eq_true] at h
    simp [eqH_len h.2]
  | [], _ :: _, h => by cases h
  | _ :: _, [], h => by cases h
theorem eqH_self : ∀ a : List Gl, eqH a a = true
  | [] => rfl
  | a :: ws => by simp [eqH, eqG, eqL, eqH_self ws]
theorem sameH_ref (G : Nat → AV) (a b : List Gl) (s t : SM) (h : Hp) (ha : a.length ≤ 1048576) (hb : ∀ g ∈ a, g.bins.length ≤ 1048576) : PCall (En G) 28 [.sl s 3 (a.map encH), .sl t 3 (b.map encH)] h (.bool (eqH a b)) := by
  refine acalls_of (H := Hint.none) (enM G) Tryz.func28 rfl (by kernel_rfl) (by kernel_rfl) (Nat.le_of_ble_eq_true (by kernel_rfl)) ?_
  show awp _ _ _ _ _ (endQ _ [.tmp 4] _)
  simp -implicitDefEqProofs only [awp_seq, awp_reg, awp_cond, seqQ_n, WW_one, WW_nil, none_md, none_fz, frz_nil, ownOp, wc_app, wcont_s, upd_app, ev_tmp, ev_const, av_bool, x_move, x_assign, x_bin, x_len, holdsO_ofO, bin_neq, frameOf_zero, frameOf_succ, ↓reduceIte, Nat.reduceEqDiff, Option.getD_some, Bool.not_false, enP, ln32, List.length_map]
  refine cond_of (fun h1 => ?_) (fun h1 => ?_)
  · simp -implicitDefEqProofs only [awp_seq, awp_reg, awp_ret, seqQ_n, seqQ_r, end_r, WW_one, WW_nil, none_md, none_fz, frz_nil, ownOp, wc_app, wcont_s, upd_app, ev_const, av_bool, x_assign, ↓reduceIte, Option.getD_some, Bool.not_false]
    have : eqH a b = false := by
      rw [← Bool.not_eq_true]; intro e
      have := eqH_len e
      simp [this] at h1
    exact ⟨by rw [this], trivial⟩
  have hab : a.length = b.length := by simp at h1; omega
  simp -implicitDefEqProofs only [awp_seq, awp_block, awp_reg, awp_skip, seqQ_n, WW_one, WW_nil, none_md, none_fz, frz_nil, ownOp, wc_app, wcont_s, ev_const, av_int, x_assign, Option.getD_some, Bool.not_false]
  refine awp_loop (fun n F H => ∃ i, n + i = a.length ∧ F 0 = .sl s 3 (a.map encH) ∧ F 1 = .sl t 3 (b.map encH) ∧ F 5 = .int .i64 (i : Nat) ∧ H = h ∧ eqH a b = eqH (a.drop i) (b.drop i)) a.length ⟨0, by simp, by simp -implicitDefEqProofs only [upd_app, frameOf_zero, ↓reduceIte, Nat.reduceEqDiff], by simp -implicitDefEqProofs only [upd_app, frameOf_zero, frameOf_succ, ↓reduceIte, Nat.reduceEqDiff], by simp -implicitDefEqProofs only [upd_app, ↓reduceIte]; rfl, rfl, rfl⟩ ?_
  rintro n F H ⟨i, hi, f0, f1, f5, rfl, he⟩
  simp -implicitDefEqProofs only [awp_seq, awp_reg, awp_cond, seqQ_n, WW_one, WW_nil, none_md, none_fz, frz_nil, ownOp, wc_app, wcont_s, upd_app, ev_tmp, x_move, x_bin, x_len, holdsO_ofO, bin_lss, ↓reduceIte, Nat.reduceEqDiff, Option.getD_some, Bool.not_false, enP, ln32, f0, f5, List.length_map]
  refine cond_of (fun hc => ?_) (fun hc => ?_)
  · have hi' : i < a.length := by simpa using hc
    have hib : i < b.length := by omega
    have hbl := hb _ (List.getElem_mem hi')
    rw [List.drop_eq_getElem_cons hi', List.drop_eq_getElem_cons hib] at he
    have he' : eqH a b = (eqG a[i] b[i] && eqH (a.drop (i + 1)) (b.drop (i + 1))) := he
    simp -implicitDefEqProofs only [awp_seq, awp_block, awp_skip, seqQ_n]
    refine awp_draw (by kernel_rfl) ?_
    simp -implicitDefEqProofs only [YO_f, dc_app, dcont_s, DD_one, DD_guardE, GY_some, y_move, y_load, y_bin, y_fieldAddr, y_indexAddr, gdstO, none_md, upd_app, ev_tmp, x_load, x_bin, x_fieldAddr, x_indexAddr, holdsO_ofO, ↓reduceIte, Nat.reduceEqDiff, Nat.reduceAdd, Nat.add_zero, Option.getD_some, enP, bn4, ix32, fa106_0, bne, f0, f1, f5, ix_map hi', ix_map hib, load_map ag4 hi', load_map ag4 hib, encH0]
    cases c1 : (a[i].cross == b[i].cross)
    · simp -implicitDefEqProofs only [YO_f, dc_app, dcont_s, DD_nil, DD_one, DD_guardE, GY_some, GD_ft, y_move, y_pick, awp_seq, awp_reg, awp_ret, awp_cond, seqQ_n, seqQ_r, blk_r, rnd_r, end_r, cond_t, WW_one, WW_nil, gdstO, none_md, none_fz, frz_nil, ownOp, wc_app, wcont_s, upd_app, aput, ev_tmp, ev_const, av_bool, x_assign, x_pick, pick_t, ↓reduceIte, Nat.reduceEqDiff, Nat.reduceAdd, Option.getD_some, Bool.not_false]
      exact ⟨by rw [he']; unfold eqG; rw [c1]; rfl, trivial⟩
    simp -implicitDefEqProofs only [YO_f, dc_app, dcont_s, DD_one, DD_guardE, GY_some, GD_ff, y_move, y_pick, y_load, y_bin, y_fieldAddr, y_indexAddr, gdstO, none_md, upd_app, ev_tmp, ev_const, av_bool, x_pick, pick_f, x_load, x_bin, x_fieldAddr, x_indexAddr, holdsO_ofO, bin_neq, ↓reduceIte, Nat.reduceEqDiff, Nat.reduceAdd, Nat.zero_add, Option.getD_some, Bool.not_true, enP, ix32, fa106_1, bne, f0, f1, f5, ix_map hi', ix_map hib, load_map ag3 hi', load_map ag3 hib, encH1]
    cases c2 : ((a[i].idx : Int) == (b[i].idx : Int))
    · simp -implicitDefEqProofs only [YO_f, dc_app, dcont_s, DD_nil, DD_one, DD_guardE, GY_some, GD_ft, y_pick, awp_seq, awp_reg, awp_ret, awp_cond, seqQ_n, seqQ_r, blk_r, rnd_r, end_r, cond_t, WW_one, WW_nil, gdstO, none_md, none_fz, frz_nil, ownOp, wc_app, wcont_s, upd_app, aput, ev_tmp, ev_const, av_bool, x_assign, x_pick, pick_t, ↓reduceIte, Nat.reduceEqDiff, Nat.reduceAdd, Option.getD_some, Bool.not_false]
      exact ⟨by rw [he']; unfold eqG; rw [c1, c2]; rfl, trivial⟩
    have hg : eqG a[i] b[i] = eqL a[i].bins b[i].bins := by unfold eqG; rw [c1, c2]; rfl
    rw [hg] at he'
    simp -implicitDefEqProofs only [YO_f, dc_app, dcont_s, DD_nil, DD_one, DD_guardE, GY_some, GD_ff, y_move, y_pick, y_load, y_bin, y_fieldAddr, y_indexAddr, y_builtin, awp_cond, seqQ_n, gdstO, none_md, upd_app, ev_tmp, ev_const, av_bool, x_pick, pick_f, x_load, x_bin, x_fieldAddr, x_indexAddr, x_len, holdsO_ofO, bin_neq, ↓reduceIte, Nat.reduceEqDiff, Nat.reduceAdd, Nat.zero_add, Option.getD_some, Bool.not_true, enP, ix32, ln57, fa106_2, bne, f0, f1, f5, ix_map hi', ix_map hib, load_map ag57 hi', load_map ag57 hib, encH2, List.length_map]
    cases c3 : ((a[i].bins.length : Int) == (b[i].bins.length : Int))
    · simp -implicitDefEqProofs only [awp_seq, awp_reg, awp_ret, seqQ_n, seqQ_r, blk_r, rnd_r, end_r, cond_t, WW_one, WW_nil, none_md, none_fz, frz_nil, ownOp, wc_app, wcont_s, upd_app, ev_const, av_bool, x_assign, ↓reduceIte, Option.getD_some, Bool.not_false]
      have : eqL a[i].bins b[i].bins = false := by
        unfold eqL; rw [decide_eq_false_iff_not]; intro e; rw [e] at c3; simp at c3
      exact ⟨by rw [he', this]; rfl, trivial⟩
    have hbb : a[i].bins.length = b[i].bins.length := by simp at c3; omega
    simp -implicitDefEqProofs only [awp_seq, awp_block, awp_reg, awp_skip, seqQ_n, cond_f, WW_one, WW_nil, none_md, none_fz, frz_nil, ownOp, wc_app, wcont_s, ev_const, av_int, x_assign, Option.getD_some, Bool.not_true, Bool.not_false]
    refine awp_lp 2 (fun F' H' => F' 0 = .sl s 3 (a.map encH) ∧ F' 1 = .sl t 3 (b.map encH) ∧ F' 5 = .int .i64 (i : Nat) ∧ H' = H ∧ eqL a[i].bins b[i].bins = true) (fun F' H' => F' 4 = .bool false ∧ H' = H ∧ eqL a[i].bins b[i].bins = false) ?_ ?_ ?_
    · refine awp_loop (fun n F' H' => ∃ k, n + k = a[i].bins.length ∧ F' 0 = .sl s 3 (a.map encH) ∧ F' 1 = .sl t 3 (b.map encH) ∧ F' 5 = .int .i64 (i : Nat) ∧ F' 6 = .int .i64 (k : Nat) ∧ H' = H ∧ eqL a[i].bins b[i].bins = eqL (a[i].bins.drop k) (b[i].bins.drop k)) a[i].bins.length ⟨0, by simp, by simp -implicitDefEqProofs only [upd_app, ↓reduceIte, Nat.reduceEqDiff, f0], by simp -implicitDefEqProofs only [upd_app, ↓reduceIte, Nat.reduceEqDiff, f1], by simp -implicitDefEqProofs only [upd_app, ↓reduceIte, Nat.reduceEqDiff, f5], by simp -implicitDefEqProofs only [upd_app, ↓reduceIte]; rfl, rfl, rfl⟩ ?_
      clear f0 f1 f5
      rintro n' F H' ⟨k, hk, f0, f1, f5, f6, rfl, hl⟩
      simp -implicitDefEqProofs only [awp_seq, awp_reg, awp_cond, seqQ_n, WW_one, WW_nil, none_md, none_fz, frz_nil, ownOp, wc_app, wcont_s, upd_app, ev_tmp, x_move, x_load, x_bin, x_fieldAddr, x_indexAddr, x_len, holdsO_ofO, bin_lss, ↓reduceIte, Nat.reduceEqDiff, Nat.zero_add, Option.getD_some, Bool.not_false, enP, ix32, ln57, fa106_2, f0, f5, f6, ix_map hi', load_map ag57 hi', encH2, List.length_map]
      refine cond_of (fun hc => ?_) (fun hc => ?_)
      · have hk' : k < a[i].bins.length := by simpa using hc
        have hkb : k < b[i].bins.length := by omega
        rw [eqL_step hk' hkb] at hl
        simp -implicitDefEqProofs only [awp_seq, awp_block, awp_skip, seqQ_n]
        refine awp_draw (by kernel_rfl) ?_
        simp -implicitDefEqProofs only [YO_f, dc_app, dcont_s, DD_nil, DD_one, y_move, y_load, y_bin, y_fieldAddr, y_indexAddr, awp_cond, seqQ_n, none_md, upd_app, ev_tmp, x_load, x_bin, x_fieldAddr, x_indexAddr, holdsO_ofO, bin_neq, ↓reduceIte, Nat.reduceEqDiff, Nat.reduceAdd, Nat.zero_add, Option.getD_some, enP, ix32, ix57, fa106_2, f0, f1, f5, f6, ix_map hi', ix_map hib, load_map ag57 hi', load_map ag57 hib, encH2, ix_map hk', ix_map hkb, load_map ag3 hk', load_map ag3 hkb, encI0]
        refine cond_of (fun hd => ?_) (fun hd => ?_)
        · simp -implicitDefEqProofs only [awp_seq, awp_reg, awp_ret, seqQ_n, seqQ_r, blk_r, lp_r, rnd_r, WW_one, WW_nil, none_md, none_fz, frz_nil, ownOp, wc_app, wcont_s, upd_app, ev_const, av_bool, x_assign, ↓reduceIte, Option.getD_some, Bool.not_false]
          have : decide (a[i].bins[k] = b[i].bins[k]) = false := by simpa using hd
          exact ⟨trivial, trivial, by rw [hl, this]; rfl⟩
        · simp -implicitDefEqProofs only [awp_reg, awp_skip, seqQ_n, blk_n, rnd_n, WW_one, WW_nil, none_md, none_fz, frz_nil, ownOp, wc_app, wcont_s, upd_app, ev_tmp, ev_const, av_int, x_move, x_assign, x_bin, holdsO_ofO, bin_add, ↓reduceIte, Nat.reduceEqDiff, Option.getD_some, Bool.not_false, enP, f6, wrap_succ (show k < 9223372036854775807 by omega)]
          have : decide (a[i].bins[k] = b[i].bins[k]) = true := by simpa using hd
          exact ⟨n' - 1, by omega, k + 1, by omega, f0, f1, f5, rfl, trivial, by rw [hl, this]; rfl⟩
      · have hk' : ¬ k < a[i].bins.length := by simpa using hc
        simp -implicitDefEqProofs only [awp_exit, seqQ_e, lp_e, rnd_e, upd_app, ↓reduceIte, Nat.reduceEqDiff]
        exact ⟨f0, f1, f5, trivial, by rw [hl, List.drop_eq_nil_of_le (by omega), List.drop_eq_nil_of_le (by omega)]; rfl⟩
    · rintro F' H' ⟨g0, g1, g5, rfl, hl⟩
      simp -implicitDefEqProofs only [awp_reg, seqQ_n, blk_n, blk_e, rnd_n, WW_one, WW_nil, none_md, none_fz, frz_nil, ownOp, wc_app, wcont_s, upd_app, ev_tmp, ev_const, av_int, x_move, x_assign, x_bin, holdsO_ofO, bin_add, ↓reduceIte, Nat.reduceEqDiff, Option.getD_some, Bool.not_false, enP, g5, wrap_succ (show i < 9223372036854775807 by omega)]
      exact ⟨n - 1, by omega, i + 1, by omega, g0, g1, rfl, trivial, by rw [he', hl]; rfl⟩
    · rintro F' H' ⟨g4, rfl, hl⟩
      simp -implicitDefEqProofs only [seqQ_r, blk_r, rnd_r, end_r, g4]
      exact ⟨by rw [he', hl]; rfl, trivial⟩
  · have hi' : ¬ i < a.length := by simpa using hc
    simp -implicitDefEqProofs only [awp_seq, awp_reg, awp_ret, awp_exit, seqQ_n, seqQ_e, blk_e, rnd_e, end_r, WW_one, WW_nil, none_md, none_fz, frz_nil, ownOp, wc_app, wcont_s, upd_app, ev_const, av_bool, x_assign, ↓reduceIte, Option.getD_some, Bool.not_false]
    exact ⟨by rw [he, List.drop_eq_nil_of_le (by omega), List.drop_eq_nil_of_le (by omega)]; rfl, trivial⟩
end Go.Proofs.YtocilianjfhifaaGreatDoor.Cov
/- The example of the chapter; no condition but the variables that are laid, and cover.tuple's contract. -/
set_option linter.unusedSimpArgs false
set_option maxRecDepth 8000
namespace Go.Proofs.YtocilianjfhifaaGreatDoor.Cov
open Go Go.Proofs Go.Proofs.YtocilianjfhifaaGreatDoor.Sm Go.Proofs.YtocilianjfhifaaGreatDoor.Bins Go.RowKit

def mkB (name : ByteArray) (kind lo hi : Int) : Bin := ⟨name, kind, ⟨.full, [⟨lo, hi⟩]⟩, .nil, []⟩
theorem bd121 (a b : Int) : aBuild Tryz.prog 185 [(0, .int .i64 a), (1, .int .i64 b)] = some (.agg [.int .i64 a, .int .i64 b]) := by kernel_rfl
theorem bs76i (h : Hp) (a b : Int) : aBuildSlice Tryz.prog false h 118 1 [(0, .agg [.int .i64 a, .int .i64 b])] = some (.sl .full 2 [[.int .i64 a, .int .i64 b]], h) := by kernel_rfl
theorem bd79 (s : ByteArray) (k : Int) (xs : List (List AV)) : aBuild Tryz.prog 121 [(0, .str s), (1, .int .i64 k), (2, .sl .full 2 xs)] = some (.agg [.str s, .int .i64 k, .sl .full 2 xs, .sl .nil 0 []]) := by kernel_rfl
def rowB (s : ByteArray) (k lo hi : Int) : List AV := [.str s, .int .i64 k, .sl .full 2 [[.int .i64 lo, .int .i64 hi]], .sl .nil 0 []]
theorem st79r (h : Hp) (s : ByteArray) (k lo hi : Int) (row : List AV) (hr : row.length = 4) : aStore Tryz.prog (h ++ [.live 4 [row]]) 121 (.ptr h.length 0 0) (.agg [.str s, .int .i64 k, .sl .full 2 [[.int .i64 lo, .int .i64 hi]], .sl .nil 0 []]) = some (h ++ [.live 4 [rowB s k lo hi]]) := by
  have h1 := store_top (P := Tryz.prog) (t := 121) (h := h) (k := 4) (j := 0) (row := row) (cs := rowB s k lo hi) (v := .agg (rowB s k lo hi)) rfl sz121 (by rw [hr]; exact Nat.le_refl 4)
  have h2 : splice row 0 (rowB s k lo hi) = rowB s k lo hi := by unfold splice; simp [hr, rowB]
  rw [h2] at h1
  exact h1
theorem bin_law (G : Nat → AV) (s : ByteArray) (k lo hi : Int) (h : Hp) : PCall (En G) 145 [.str s, .int .i64 k, .int .i64 lo, .int .i64 hi] h (.agg (encB (mkB s k lo hi))) := by
  have hp : PCall (En G) 145 [.str s, .int .i64 k, .int .i64 lo, .int .i64 hi] h (.agg (rowB s k lo hi)) := by
    refine ACalls.pure 2 (R := fun v H => v = .agg (rowB s k lo hi) ∧ ∃ x, H = h ++ x) ?_ (fun v h' ⟨e, x⟩ => ⟨x, by subst e; rfl⟩)
    refine acalls_of (H := Hint.none) (enM G) Tryz.func145 rfl (by kernel_rfl) (by kernel_rfl) (Nat.le_of_ble_eq_true (by kernel_rfl)) ?_
    show awp _ _ _ _ _ (endQ _ [.cell 8 121] _)
    simp -implicitDefEqProofs only [evp_nil, evp_cons, awp_seq, awp_reg, awp_ret, seqQ_n, WW_one, WW_nil, none_md, none_fz, frz_nil, ownOp, wc_app, wcont_s, wcont_n, upd_app, ev_tmp, x_move, x_alloc, x_build, x_buildSlice, x_store, holdsO_some, holdsO_ofO, holdsO_ofS, frameOf_zero, frameOf_succ, ↓reduceIte, Nat.reduceEqDiff, Option.getD_some, Bool.not_false, enP, Option.getD_none, al79, bd121, bs76i, bd79, st79r _ _ _ _ _ [.str ⟨#[]⟩, .int .i64 0, .sl .nil 0 [], .sl .nil 0 []] rfl]
    refine ⟨trivial, .agg (rowB s k lo hi), ?_, rfl, _, rfl⟩
    exact load_topA (P := Tryz.prog) (h := h) (k := 4) (row := rowB s k lo hi) ag121 sz121 (Nat.le_refl 4)
  exact hp.res (CvR.agg (CvRL.cons (CvR.refl _) (CvRL.cons (CvR.refl _) (CvRL.cons (CvR.refl _) (CvRL.cons (CvR.sl (Cv.nil 0 1)) CvRL.nil)))))

def exE0 : Ex := .mk 2 0 ⟨#[97]⟩ .nil []
def exP : Pt := ⟨⟨#[112]⟩, exE0, .full, [mkB ⟨#[108, 111, 119]⟩ 0 0 3, mkB ⟨#[104, 105, 103, 104]⟩ 0 4 7, mkB ⟨#[110, 111, 110, 101]⟩ 1 9 9]⟩
def exM : Mo := ⟨.full, [exP], .nil, []⟩
def exV : Cvr := ⟨.full, [⟨.full, [3, 0, 0]⟩], .nil, [], 3, 0⟩
theorem ex_goal : goalN exM = 2 := by decide +kernel
theorem ex_reach : reachN exM exV = 1 := by decide +kernel
theorem ex_perc : percN exM exV = 50 := by decide +kernel
theorem bd72 (n : Int) (s : ByteArray) : aBuild Tryz.prog 53 [(0, .int .i64 n), (2, .str s)] = some (.agg [.int .i64 n, .int .i64 0, .str s, .sl .nil 0 []]) := by kernel_rfl
theorem bs73 (h : Hp) (a b c : Bin) : aBuildSlice Tryz.prog false h 54 3 [(0, .agg (encB a)), (1, .agg (encB b)), (2, .agg (encB c))] = some (.sl .full 4 [encB a, encB b, encB c], h) := by
  have h1 : Tryz.prog.underlying 54 = some (.slice 121) := by kernel_rfl
  have h3 : zszO Tryz.prog 121 = some 4 := by kernel_rfl
  unfold aBuildSlice
  simp only [h1, sz121, h3]
  have h2 : rowsA 4 0 [(0, AV.agg (encB a)), (1, AV.agg (encB b)), (2, AV.agg (encB c))] = some [encB a, encB b, encB c] := rfl
  have fr : ∀ x : Bin, (encB x).all AV.frozen = true := fun _ => rfl
  simp [h2, fr]
theorem bd75 (s t : ByteArray) (n : Int) (xs : List (List AV)) : aBuild Tryz.prog 56 [(0, .str s), (1, .agg [.int .i64 n, .int .i64 0, .str t, .sl .nil 0 []]), (2, .sl .full 4 xs)] = some (.agg [.str s, .int .i64 n, .int .i64 0, .str t, .sl .nil 0 [], .sl .full 4 xs]) := by kernel_rfl
theorem bs22p (h : Hp) (s t : ByteArray) (n : Int) (xs : List (List AV)) : aBuildSlice Tryz.prog false h 22 1 [(0, .agg [.str s, .int .i64 n, .int .i64 0, .str t, .sl .nil 0 [], .sl .full 4 xs])] = some (.sl .full 6 [[.str s, .int .i64 n, .int .i64 0, .str t, .sl .nil 0 [], .sl .full 4 xs]], h) := by kernel_rfl
theorem bd25 (xs : List (List AV)) : aBuild Tryz.prog 25 [(0, .sl .full 6 xs)] = some (.agg [.sl .full 6 xs, .sl .nil 0 []]) := by kernel_rfl
theorem al25 (h : Hp) : aAlloc Tryz.prog h 25 = some (.ptr h.length 0 0, h ++ [.live 2 [[.sl .nil 0 [], .sl .nil 0 []]]]) := alloc_of (row := [.sl .nil 0 [], .sl .nil 0 []]) (by kernel_rfl)
def rowM : List AV := [.sl .full 6 [[.str ⟨#[112]⟩, .int .i64 2, .int .i64 0, .str ⟨#[97]⟩, .sl .nil 0 [], .sl .full 4 (exP.bins.map encB)]], .sl .nil 0 []]
theorem st25r (h : Hp) (row : List AV) (hr : row.length = 2) : aStore Tryz.prog (h ++ [.live 2 [row]]) 25 (.ptr h.length 0 0) (.agg rowM) = some (h ++ [.live 2 [rowM]]) := by
  have h1 := store_top (P := Tryz.prog) (t := 25) (h := h) (k := 2) (j := 0) (row := row) (cs := rowM) (v := .agg rowM) rfl sz25 (by rw [hr]; exact Nat.le_refl 2)
  have h2 : splice row 0 rowM = rowM := by unfold splice; simp [hr, rowM]
  rw [h2] at h1
  exact h1
theorem rowM_conv : CvR (.agg rowM) (.agg (encM exM)) := by
  refine CvR.agg (CvRL.cons (CvR.sl (Cv.rows rfl ?_)) (CvRL.cons (CvR.sl (Cv.nil 0 3)) CvRL.nil))
  intro i r r' h1 h2
  match i, h1, h2 with
  | 0, h1, h2 =>
    cases h1; cases h2
    exact CvRow.cons rfl (Cv.refl _) (CvRow.cons rfl (Cv.refl _) (CvRow.cons rfl (Cv.refl _) (CvRow.cons rfl (Cv.refl _) (CvRow.cons rfl (Cv.nil 0 4) (CvRow.cons rfl (Cv.refl _) CvRow.nil)))))
  | _ + 1, h1, _ => cases h1
theorem sample (G : Nat → AV) (h : Hp) : PCall (En G) 84 [] h (.agg (encM exM)) := by
  have hp : PCall (En G) 84 [] h (.agg rowM) := by
    refine ACalls.pure 2 (R := fun v H => v = .agg rowM ∧ ∃ x, H = h ++ x) ?_ (fun v h' ⟨e, x⟩ => ⟨x, by subst e; rfl⟩)
    refine acalls_of (H := Hint.none) (enM G) Tryz.func84 rfl (by kernel_rfl) (by kernel_rfl) (Nat.le_of_ble_eq_true (by kernel_rfl)) ?_
    show awp _ _ _ _ _ (endQ _ [.cell 0 25] _)
    simp -implicitDefEqProofs only [evp_nil, evp_cons, awp_seq, awp_reg, seqQ_n, WW_one, WW_nil, none_md, none_fz, frz_nil, ownOp, wc_app, wcont_s, ev_const, ev_func, av_int, av_str, x_alloc, x_build, X1_call, callA_fn, holdsO_some, holdsO_ofO, List.map_cons, List.map_nil, List.append_nil, Option.getD_some, Bool.not_false, enP, al25, bd72]
    refine (bin_law G _ _ _ _ _).use ?_
    simp -implicitDefEqProofs only [WW_one, none_md, none_fz, frz_nil, ownOp, wc_app, wcont_s, ev_const, ev_func, av_int, av_str, X1_call, callA_fn, List.map_cons, List.map_nil, List.append_nil, Option.getD_some, Bool.not_false]
    refine (bin_law G _ _ _ _ _).use ?_
    simp -implicitDefEqProofs only [WW_one, none_md, none_fz, frz_nil, ownOp, wc_app, wcont_s, ev_const, ev_func, av_int, av_str, X1_call, callA_fn, List.map_cons, List.map_nil, List.append_nil, Option.getD_some, Bool.not_false]
    refine (bin_law G _ _ _ _ _).use ?_
    simp -implicitDefEqProofs only [evp_nil, evp_cons, WW_one, none_md, none_fz, frz_nil, ownOp, wc_app, wcont_s, upd_app, ev_tmp, ev_const, av_str, x_build, x_buildSlice, x_store, holdsO_some, holdsO_ofO, ↓reduceIte, Nat.reduceEqDiff, Option.getD_some, Bool.not_false, enP, Option.getD_none, bs73, bd75, bs22p, bd25]
    refine holdsO_of (v := undefA) (h := h ++ [.live 2 [rowM]]) (by
      have := st25r h [.sl .nil 0 [], .sl .nil 0 []] rfl
      exact congrArg ofS this) ?_
    simp -implicitDefEqProofs only [awp_ret, seqQ_n, WW_nil, wcont_n]
    refine ⟨trivial, .agg rowM, ?_, rfl, _, rfl⟩
    exact load_topA (P := Tryz.prog) (h := h) (k := 2) (row := rowM) ag25 sz25 (Nat.le_refl 2)
  exact hp.res rowM_conv
theorem exM_ok : MoOk exM := ⟨by decide, by decide, fun p hp => by
  simp only [exM, List.mem_singleton] at hp
  subst hp
  exact ⟨by decide +kernel, by decide, by decide, fun b hb => by
    simp only [exP, List.mem_cons, List.not_mem_nil, or_false] at hb
    rcases hb with rfl | rfl | rfl <;> exact ⟨by decide, by decide, by decide, by decide⟩⟩, fun c hc => by cases hc⟩
theorem exV_ok : CvOk exV := ⟨by decide, by decide, by decide, by decide⟩
def exRow : List AV := [.sl .full 1 [[.sl .full 1 [[.int .i64 3], [.int .i64 0], [.int .i64 0]]]], .sl .nil 0 [], .int .i64 3, .int .i64 0]
theorem exRow_conv : CvR (.agg exRow) (.agg (encV exV)) := CvR.agg (CvRL.cons (CvR.refl _) (CvRL.cons (CvR.sl (Cv.nil 0 1)) (CvRL.cons (CvR.refl _) (CvRL.cons (CvR.refl _) CvRL.nil))))
end Go.Proofs.YtocilianjfhifaaGreatDoor.Cov
/- The example of the chapter, checked; no condition but the variables that are laid, and cover.tuple's contract. -/
set_option linter.unusedSimpArgs false
set_option maxRecDepth 8000
namespace Go.Proofs.YtocilianjfhifaaGreatDoor.Cov
open Go Go.Proofs Go.Proofs.YtocilianjfhifaaGreatDoor.Sm Go.Proofs.YtocilianjfhifaaGreatDoor.Bins Go.RowKit

theorem bs56_3 (h : Hp) (a b c : Int) : aBuildSlice Tryz.prog false h 57 3 [(0, .int .i64 a), (1, .int .i64 b), (2, .int .i64 c)] = some (.sl .full 1 [[.int .i64 a], [.int .i64 b], [.int .i64 c]], h) := by kernel_rfl
theorem bs26_1 (h : Hp) (xs : List (List AV)) : aBuildSlice Tryz.prog false h 26 1 [(0, .sl .full 1 xs)] = some (.sl .full 1 [[.sl .full 1 xs]], h) := by kernel_rfl
theorem bd28_3 (xs : List (List AV)) (n : Int) : aBuild Tryz.prog 28 [(0, .sl .full 1 xs), (2, .int .i64 n)] = some (.agg [.sl .full 1 xs, .sl .nil 0 [], .int .i64 n, .int .i64 0]) := by kernel_rfl
theorem al28 (h : Hp) : aAlloc Tryz.prog h 28 = some (.ptr h.length 0 0, h ++ [.live 4 [[.sl .nil 0 [], .sl .nil 0 [], .int .i64 0, .int .i64 0]]]) := alloc_of (row := [.sl .nil 0 [], .sl .nil 0 [], .int .i64 0, .int .i64 0]) (by kernel_rfl)
theorem st28r (h : Hp) (row : List AV) (hr : row.length = 4) : aStore Tryz.prog (h ++ [.live 4 [row]]) 28 (.ptr h.length 0 0) (.agg exRow) = some (h ++ [.live 4 [exRow]]) := by
  have h1 := store_top (P := Tryz.prog) (t := 28) (h := h) (k := 4) (j := 0) (row := row) (cs := exRow) (v := .agg exRow) rfl sz28 (by rw [hr]; exact Nat.le_refl 4)
  have h2 : splice row 0 exRow = exRow := by unfold splice; simp [hr, exRow]
  rw [h2] at h1
  exact h1
theorem st25 (h : Hp) (m : Mo) (row : List AV) (hr : row.length = 2) : aStore Tryz.prog (h ++ [.live 2 [row]]) 25 (.ptr h.length 0 0) (.agg (encM m)) = some (h ++ [.live 2 [encM m]]) := by
  rw [store_top (ac_agg rfl) (by rw [encM_len]; exact sz25) (by rw [encM_len, hr]; exact Nat.le_refl _)]
  have : splice row 0 (encM m) = encM m := by unfold splice; simp [encM_len, hr]
  rw [this]
theorem ldR {h : Hp} {b : Nat} (hb : h[b]? = some (.live 4 [exRow])) : aLoad Tryz.prog h 28 (.ptr b 0 0) = some (.agg exRow) := by
  rw [load_rowA ag28 sz28 hb rfl (Nat.le_refl 4)]; rfl
theorem bd58l (xs : List (List AV)) : aBuild Tryz.prog 106 [(2, .sl .full 1 xs)] = some (.agg [.bool false, .int .i64 0, .sl .full 1 xs]) := by kernel_rfl
theorem bs32l (h : Hp) (xs : List (List AV)) : aBuildSlice Tryz.prog false h 32 1 [(0, .agg [.bool false, .int .i64 0, .sl .full 1 xs])] = some (.sl .full 3 [[.bool false, .int .i64 0, .sl .full 1 xs]], h) := by kernel_rfl
def exH : Gl := ⟨false, 0, .full, [1], 0⟩
theorem ex_holes : eqH (holesL exM exV) [exH] = true := by decide +kernel
theorem ex_hlen : (holesL exM exV).length ≤ 1048576 := by decide +kernel
theorem ex_hbins : ∀ g ∈ holesL exM exV, g.bins.length ≤ 1048576 := by decide +kernel
set_option maxHeartbeats 1000000 in
theorem awake (G : Nat → AV) (hG : GOk G) (hT : TupleOk G) (h : Hp) : PCall (En G) 33 [] h (.bool true) := by
  refine ACalls.pure0 rfl ?_
  refine acalls_of (H := Hint.none) (enM G) Tryz.func33 rfl (by kernel_rfl) (by kernel_rfl) (Nat.le_of_ble_eq_true (by kernel_rfl)) ?_
  show awp _ _ _ _ _ (endQ _ [.tmp 0] _)
  simp -implicitDefEqProofs only [awp_seq, awp_reg, seqQ_n, WW_one, WW_nil, none_md, none_fz, frz_nil, ownOp, wc_app, wcont_s, ev_const, ev_func, av_bool, x_assign, X1_call, callA_fn, List.map_nil, List.append_nil, Option.getD_some, Bool.not_false, enP]
  refine (sample G h).use ?_
  have hst := st28r (h ++ [ABlk.live 2 [encM exM]]) [.sl .nil 0 [], .sl .nil 0 [], .int .i64 0, .int .i64 0] rfl
  simp -implicitDefEqProofs only [evp_nil, evp_cons, awp_seq, awp_reg, seqQ_n, WW_one, WW_nil, none_md, none_fz, frz_nil, ownOp, wc_app, wcont_s, wcont_n, upd_app, ev_tmp, ev_const, av_int, x_alloc, x_build, x_buildSlice, x_store, holdsO_some, holdsO_ofO, holdsO_ofS, ↓reduceIte, Nat.reduceEqDiff, Option.getD_some, Bool.not_false, enP, Option.getD_none, al25, st25 h exM [.sl .nil 0 [], .sl .nil 0 []] rfl, bs56_3, bs26_1, bd28_3, al28]
  refine holdsO_of (v := undefA) (h := h ++ [ABlk.live 2 [encM exM]] ++ [ABlk.live 4 [exRow]]) (by exact congrArg ofS hst) ?_
  have gm : (h ++ [ABlk.live 2 [encM exM]] ++ [ABlk.live 4 [exRow]])[h.length]? = some (.live 2 [encM exM]) := below_get (top_get _ _)
  have gr := top_get (h ++ [ABlk.live 2 [encM exM]]) (.live 4 [exRow])
  have hx : ∃ x, h ++ [ABlk.live 2 [encM exM]] ++ [ABlk.live 4 [exRow]] = h ++ x := ⟨_, List.append_assoc _ _ _⟩
  simp -implicitDefEqProofs only [awp_seq, awp_reg, seqQ_n, WW_one, WW_nil, none_md, none_fz, frz_nil, ownOp, wc_app, wcont_n, upd_app, ev_tmp, x_load, ↓reduceIte, Nat.reduceEqDiff, Option.getD_some, Bool.not_false, enP]
  generalize h ++ [ABlk.live 2 [encM exM]] ++ [ABlk.live 4 [exRow]] = H at gm gr hx ⊢
  generalize (h ++ [ABlk.live 2 [encM exM]]).length = rb at gr ⊢
  have cv : CvRL [.agg (encM exM), .agg exRow] [.agg (encM exM), .agg (encV exV)] := CvRL.cons (CvR.refl _) (CvRL.cons exRow_conv CvRL.nil)
  have p1 := goal_prog G hG exM exM_ok H
  rw [ex_goal] at p1
  have p2 := (reach_prog G hG hT exM exV exM_ok exV_ok H).args cv
  rw [ex_reach] at p2
  have p3 := (perc_prog G hG hT exM exV exM_ok exV_ok H).args cv
  rw [ex_perc] at p3
  have p4 := (holes_prog G hG hT exM exV exM_ok exV_ok H).args cv
  have p5 := sameH_ref G (holesL exM exV) [exH] (nm (holesL exM exV)) .full H ex_hlen ex_hbins
  rw [ex_holes] at p5
  have c1 : (((2 : Nat) : Int) == 2) = true := rfl
  have c2 : (((1 : Nat) : Int) == 1) = true := rfl
  have c3 : (((50 : Nat) : Int) == 50) = true := rfl
  simp -implicitDefEqProofs only [WW_one, none_md, none_fz, frz_nil, ownOp, wc_app, wcont_s, upd_app, ev_tmp, ev_func, X1_call, callA_fn, holdsO_ofO, List.map_cons, List.map_nil, List.append_nil, ↓reduceIte, Option.getD_some, Bool.not_false, ldM gm]
  refine p1.use ?_
  simp -implicitDefEqProofs only [WW_one, WW_guardE, GX_some, gdstO, G1_tt, none_md, none_fz, frz_nil, ownOp, wc_app, wcont_s, upd_app, ev_tmp, ev_const, ev_func, av_int, x_move, x_load, x_bin, X1_call, callA_fn, holdsO_ofO, bin_eql, List.map_cons, List.map_nil, List.append_nil, ↓reduceIte, Nat.reduceEqDiff, Option.getD_some, Bool.not_false, enP, c1, ldM gm, ldR gr]
  refine p2.use ?_
  simp -implicitDefEqProofs only [WW_one, WW_guardE, GX_some, gdstO, G1_tt, none_md, none_fz, frz_nil, ownOp, wc_app, wcont_s, upd_app, ev_tmp, ev_const, ev_func, av_int, av_bool, x_move, x_pick, pick_t, x_load, x_bin, X1_call, callA_fn, holdsO_ofO, bin_eql, List.map_cons, List.map_nil, List.append_nil, ↓reduceIte, Nat.reduceEqDiff, Option.getD_some, Bool.not_false, enP, c2, ldM gm, ldR gr]
  refine p3.use ?_
  simp -implicitDefEqProofs only [WW_one, WW_guardE, GX_some, gdstO, G1_tt, none_md, none_fz, frz_nil, ownOp, wc_app, wcont_s, upd_app, ev_tmp, ev_const, ev_func, av_int, av_bool, x_move, x_pick, pick_t, x_load, x_bin, X1_call, callA_fn, holdsO_ofO, bin_eql, List.map_cons, List.map_nil, List.append_nil, ↓reduceIte, Nat.reduceEqDiff, Option.getD_some, Bool.not_false, enP, c3, ldM gm, ldR gr]
  refine p4.use ?_
  simp -implicitDefEqProofs only [evp_nil, evp_cons, WW_guardE, GX_some, gdstO, G1_tt, none_md, none_fz, frz_nil, ownOp, wc_app, wcont_s, upd_app, ev_tmp, ev_const, ev_func, av_int, x_build, x_buildSlice, X1_call, callA_fn, holdsO_some, holdsO_ofO, List.map_cons, List.map_nil, List.append_nil, ↓reduceIte, Nat.reduceEqDiff, Option.getD_some, Bool.not_false, enP, bs56, bd58l, bs32l]
  refine PCall.use (r := .bool true) p5 ?_
  simp -implicitDefEqProofs only [awp_ret, seqQ_n, end_r, WW_one, WW_nil, none_md, none_fz, frz_nil, ownOp, wc_app, wcont_s, upd_app, ev_tmp, ev_const, av_bool, x_assign, x_pick, pick_t, ↓reduceIte, Nat.reduceEqDiff, Option.getD_some, Bool.not_false]
  exact ⟨trivial, hx⟩
end Go.Proofs.YtocilianjfhifaaGreatDoor.Cov
/- The law MergeMeasures; no condition but the variables that are laid, the bounds on lengths, and cover.tuple's contract. -/
set_option linter.unusedSimpArgs false
set_option maxRecDepth 8000
namespace Go.Proofs.YtocilianjfhifaaGreatDoor.Cov
open Go Go.Proofs Go.Proofs.YtocilianjfhifaaGreatDoor.Sm Go.Proofs.YtocilianjfhifaaGreatDoor.Bins Go.RowKit

theorem goals_bins {m : Mo} (hg : Good m) : ∀ g ∈ goals m, g.bins.length ≤ 1048576 := by
  have hP : ∀ (i : Nat) (p : Pt) (k : Nat), ∀ g ∈ gPk i p k, g.bins.length ≤ 1048576 := by
    intro i p k
    induction k with
    | zero => intro g h; cases h
    | succ k ih =>
      intro g h
      simp only [gPk, List.mem_append] at h
      rcases h with h | h
      · exact ih g h
      · split at h
        · simp at h; subst h; exact Nat.le_of_ble_eq_true rfl
        · cases h
  have hPs : ∀ i : Nat, ∀ g ∈ gP m i, g.bins.length ≤ 1048576 := by
    intro i
    induction i with
    | zero => intro g h; cases h
    | succ i ih =>
      intro g h
      simp only [gP, List.mem_append] at h
      rcases h with h | h
      · exact ih g h
      · split at h
        · exact hP _ _ _ g h
        · cases h
  have hC : ∀ (i : Nat) (c : Cr) (k : Nat), c ∈ m.crs → ∀ g ∈ gCk m i c k, g.bins.length ≤ 1048576 := by
    intro i c k hc
    induction k with
    | zero => intro g h; cases h
    | succ k ih =>
      intro g h
      simp only [gCk, List.mem_append] at h
      rcases h with h | h
      · exact ih g h
      · split at h
        · simp at h; subst h
          show (tupI (szs m c.pts) k).length ≤ 1048576
          unfold tupI
          rw [List.length_map, tupF_len, szs_len]
          have := (hg.crs c hc).four
          omega
        · cases h
  have hCs : ∀ i : Nat, ∀ g ∈ gC m i, g.bins.length ≤ 1048576 := by
    intro i
    induction i with
    | zero => intro g h; exact hPs _ g h
    | succ i ih =>
      intro g h
      simp only [gC, List.mem_append] at h
      rcases h with h | h
      · exact ih g h
      · split at h
        · rename_i c hc
          exact hC _ _ _ (List.mem_of_getElem? hc) g h
        · cases h
  exact hCs _
theorem holes_small (m : Mo) (v : Cvr) : (holesL m v).length ≤ 1048576 ∧ ∀ g ∈ holesL m v, g.bins.length ≤ 1048576 := by
  unfold holesL
  split
  · rename_i hf
    have hg := good_of (fitsB_good hf)
    refine ⟨?_, fun g h => goals_bins hg g (List.mem_filter.1 h).1⟩
    have h1 := List.length_filter_le (fun g => !decide (countG v g > 0)) (goals m)
    have h2 := goals_len hg
    omega
  · exact ⟨by simp, fun g h => by cases h⟩
set_option maxHeartbeats 1000000 in
theorem law_measures (G : Nat → AV) (hG : GOk G) (hT : TupleOk G) (m : Mo) (a b : Cvr) (hm : MoOk m) (ha : CvOk a) (hb : CvOk b) (h : Hp) : PCall (En G) 3 [.agg (encM m), .agg (encV a), .agg (encV b)] h (.bool true) := by
  refine ACalls.pure0 rfl ?_
  refine acalls_of (H := Hint.none) (enM G) Tryz.func3 rfl (by kernel_rfl) (by kernel_rfl) (Nat.le_of_ble_eq_true (by kernel_rfl)) ?_
  show awp _ _ _ _ _ (endQ _ [.tmp 6] _)
  have t := Three.mk' h m a b
  simp -implicitDefEqProofs only [awp_seq, awp_reg, seqQ_n, WW_one, WW_nil, none_md, none_fz, frz_nil, ownOp, wc_app, wcont_s, upd_app, ev_tmp, ev_const, av_bool, x_assign, x_box, holdsO_some, frameOf_zero, frameOf_succ, ↓reduceIte, Nat.reduceEqDiff, Option.getD_some, Bool.not_false, enP, bxM, bxV]
  generalize h ++ [ABlk.live 2 [encM m]] ++ [ABlk.live 4 [encV a]] ++ [ABlk.live 4 [encV b]] = H at t ⊢
  generalize (h ++ [ABlk.live 2 [encM m]] ++ [ABlk.live 4 [encV a]]).length = bb at t ⊢
  generalize (h ++ [ABlk.live 2 [encM m]]).length = ab at t ⊢
  have c1 : ((goalN m : Int) == (goalN m : Int)) = true := by simp
  have c2 : ((reachN m a : Int) == (reachN m a : Int)) = true := by simp
  have c3 : ((percN m a : Int) == (percN m a : Int)) = true := by simp
  have c4 : ((gainN m a b : Int) == (gainN m a b : Int)) = true := by simp
  have hs := holes_small m a
  have p5 := sameH_ref G (holesL m a) (holesL m a) (nm (holesL m a)) (nm (holesL m a)) H hs.1 hs.2
  rw [eqH_self] at p5
  refine awp_draw (by kernel_rfl) ?_
  simp -implicitDefEqProofs only [YO_f, dc_app, dcont_s, DD_one, y_load, y_bin, Y1_call, callP_fn, none_md, upd_app, ev_tmp, ev_func, x_load, x_bin, holdsO_ofO, List.map_cons, List.map_nil, List.append_nil, ↓reduceIte, Nat.reduceEqDiff, Nat.reduceAdd, Option.getD_some, enP, ldM t.gm, ldV t.ga, ldV t.gb]
  refine ⟨_, goal_prog G hG m hm _, ?_⟩
  try simp -implicitDefEqProofs only [ldM t.gm, ldV t.ga, ldV t.gb]
  refine ⟨_, goal_ref G m hm _, ?_⟩
  try simp -implicitDefEqProofs only [YO_f, dc_app, dcont_s, DD_one, DD_guardE, GY_some, GD_tt, y_move, y_load, y_bin, Y1_call, callP_fn, gdstO, none_md, upd_app, ev_tmp, ev_func, x_load, x_bin, holdsO_ofO, bin_eql, List.map_cons, List.map_nil, List.append_nil, ↓reduceIte, Nat.reduceEqDiff, Nat.reduceAdd, Option.getD_some, enP, c1, ldM t.gm, ldV t.ga, ldV t.gb]
  refine ⟨_, reach_prog G hG hT m a hm ha _, ?_⟩
  try simp -implicitDefEqProofs only [ldM t.gm, ldV t.ga, ldV t.gb]
  refine ⟨_, reach_ref G m a hm ha _, ?_⟩
  try simp -implicitDefEqProofs only [YO_f, dc_app, dcont_s, DD_one, DD_guardE, GY_some, GD_tt, y_move, y_pick, y_load, y_bin, Y1_call, callP_fn, gdstO, none_md, upd_app, ev_tmp, ev_const, ev_func, av_bool, x_pick, pick_t, x_load, x_bin, holdsO_ofO, bin_eql, List.map_cons, List.map_nil, List.append_nil, ↓reduceIte, Nat.reduceEqDiff, Nat.reduceAdd, Option.getD_some, enP, c2, ldM t.gm, ldV t.ga, ldV t.gb]
  refine ⟨_, perc_prog G hG hT m a hm ha _, ?_⟩
  try simp -implicitDefEqProofs only [ldM t.gm, ldV t.ga, ldV t.gb]
  refine ⟨_, perc_ref G m a hm ha _, ?_⟩
  try simp -implicitDefEqProofs only [YO_f, dc_app, dcont_s, DD_one, DD_guardE, GY_some, GD_tt, y_move, y_pick, y_load, Y1_call, callP_fn, gdstO, none_md, upd_app, ev_tmp, ev_const, ev_func, av_bool, x_pick, pick_t, x_load, holdsO_ofO, bin_eql, List.map_cons, List.map_nil, List.append_nil, ↓reduceIte, Nat.reduceEqDiff, Nat.reduceAdd, Option.getD_some, enP, c3, ldM t.gm, ldV t.ga, ldV t.gb]
  refine ⟨_, holes_prog G hG hT m a hm ha _, ?_⟩
  try simp -implicitDefEqProofs only [ldM t.gm, ldV t.ga, ldV t.gb]
  refine ⟨_, holes_ref G m a hm ha _, ?_⟩
  try simp -implicitDefEqProofs only [ldM t.gm, ldV t.ga, ldV t.gb]
  refine ⟨_, p5, ?_⟩
  try simp -implicitDefEqProofs only [YO_f, dc_app, dcont_s, DD_guardE, GY_some, GD_tt, y_load, y_bin, Y1_call, callP_fn, gdstO, none_md, upd_app, ev_tmp, ev_func, x_load, x_bin, holdsO_ofO, List.map_cons, List.map_nil, List.append_nil, ↓reduceIte, Nat.reduceEqDiff, Nat.reduceAdd, Option.getD_some, enP, ldM t.gm, ldV t.ga, ldV t.gb]
  refine ⟨_, gain_prog G hG hT m a b hm ha hb _, ?_⟩
  try simp -implicitDefEqProofs only [ldM t.gm, ldV t.ga, ldV t.gb]
  refine ⟨_, gain_ref G m a b hm ha hb _, ?_⟩
  try simp -implicitDefEqProofs only [YO_f, dc_app, dcont_s, DD_nil, DD_one, DD_guardE, GY_some, GD_tt, y_move, y_assign, y_pick, Y1_call, callP_fn, awp_ret, seqQ_n, end_r, gdstO, none_md, upd_app, ev_tmp, ev_const, ev_func, av_bool, x_pick, pick_t, holdsO_ofO, bin_eql, List.map_nil, List.append_nil, ↓reduceIte, Nat.reduceEqDiff, Nat.reduceAdd, Option.getD_some, c4]
  refine ⟨_, awake G hG hT _, ?_⟩
  try simp -implicitDefEqProofs only []
  exact ⟨trivial, t.hx⟩
end Go.Proofs.YtocilianjfhifaaGreatDoor.Cov
