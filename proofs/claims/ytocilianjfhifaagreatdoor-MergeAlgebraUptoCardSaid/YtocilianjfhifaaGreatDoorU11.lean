/- Part 11 of the proof (Q8, G2, G3, Kv); no condition. -/
import Derived.Test.YtocilianjfhifaaGreatDoorU10
set_option linter.unusedVariables false
/- merge.All, merge.Merge, the reference's All; no condition but the variables that are laid, the bounds on lengths, and cover.tuple's contract. -/
set_option linter.unusedSimpArgs false
set_option maxRecDepth 8000
namespace Go.Proofs.YtocilianjfhifaaGreatDoor.Cov
open Go Go.Proofs Go.Proofs.YtocilianjfhifaaGreatDoor.Sm Go.Proofs.YtocilianjfhifaaGreatDoor.Bins Go.RowKit

def rawR (m : Mo) (l : List Cvr) : List AV := if allE m l = 0 then encV (allV m l) else rowZ
theorem rawR_cv (m : Mo) (l : List Cvr) (e : Int) : CvR (.tup [.agg (rawR m l), .int .i64 e]) (.tup [.agg (encV (allR m l)), .int .i64 e]) := by
  unfold rawR allR
  split
  · exact CvR.refl _
  · exact CvR.tup (CvRL.cons zV_cv (CvRL.refl _))
theorem rawR_frz (m : Mo) (l : List Cvr) (e : Int) (n : Nat) (H : Hp) : frzF n H 3 (.tup [.agg (rawR m l), .int .i64 e]) = .tup [.agg (rawR m l), .int .i64 e] := by
  unfold rawR; split <;> rfl
theorem rawR_bad {m : Mo} {l : List Cvr} (h : allE m l ≠ 0) : rawR m l = rowZ := by unfold rawR; rw [if_neg h]
/-- a model, a result, a coverage and a track in blocks -/
structure Al (h H : Hp) (m : Mo) (c : Cvr) (b4 b6 : Nat) : Prop where
  gm : H[h.length]? = some (ABlk.live 2 [encM m])
  g4 : H[b4]? = some (ABlk.live 4 [rowZ])
  g6 : H[b6]? = some (ABlk.live 4 [encV c])
  o4 : h.length < b4
  o6 : b4 < b6
  hx : ext h H
theorem Al.app {h H : Hp} {m : Mo} {c : Cvr} {b4 b6 : Nat} (E : Al h H m c b4 b6) (x : Hp) : Al h (H ++ x) m c b4 b6 := ⟨below_getL E.gm, below_getL E.g4, below_getL E.g6, E.o4, E.o6, E.hx.app _⟩
theorem Al.up {h H H' : Hp} {m : Mo} {c : Cvr} {b4 b6 : Nat} (E : Al h H m c b4 b6) (hx : ext H H') : Al h H' m c b4 b6 := by
  obtain ⟨x, rfl⟩ := hx; exact E.app x
theorem Al.put6 {h H : Hp} {m : Mo} {c : Cvr} {b4 b6 : Nat} (E : Al h H m c b4 b6) (v : Cvr) : Al h (H.set b6 (ABlk.live 4 [encV v])) m v b4 b6 := by
  have o4 := E.o4; have o6 := E.o6
  exact ⟨get_set_ne E.gm (by omega), get_set_ne E.g4 (by omega), get_set_eq E.g6, o4, o6, E.hx.set (by omega) _⟩
/-- what is laid of an Empty's results -/
theorem lay2 {h H0 : Hp} {m : Mo} {b4 : Nat} (c : Cvr) (t : Tk) (gm : H0[h.length]? = some (ABlk.live 2 [encM m])) (g4 : H0[b4]? = some (ABlk.live 4 [rowZ])) (o4 : h.length < b4) (hx : ext h H0) :
    aStore Tryz.prog (H0 ++ [ABlk.live 4 [rowZ]] ++ [ABlk.live 1 [nilR]]) 28 (.ptr H0.length 0 0) (.agg (encV c)) = some ((H0 ++ [ABlk.live 4 [rowZ]] ++ [ABlk.live 1 [nilR]]).set H0.length (ABlk.live 4 [encV c])) ∧
    aStore Tryz.prog ((H0 ++ [ABlk.live 4 [rowZ]] ++ [ABlk.live 1 [nilR]]).set H0.length (ABlk.live 4 [encV c])) 47 (.ptr (H0 ++ [ABlk.live 4 [rowZ]]).length 0 0) (.agg (encT t)) = some (((H0 ++ [ABlk.live 4 [rowZ]] ++ [ABlk.live 1 [nilR]]).set H0.length (ABlk.live 4 [encV c])).set (H0 ++ [ABlk.live 4 [rowZ]]).length (ABlk.live 1 [encT t])) ∧
    Al h (((H0 ++ [ABlk.live 4 [rowZ]] ++ [ABlk.live 1 [nilR]]).set H0.length (ABlk.live 4 [encV c])).set (H0 ++ [ABlk.live 4 [rowZ]]).length (ABlk.live 1 [encT t])) m c b4 H0.length := by
  obtain ⟨s1, s2, g6, _, hx5⟩ := lay0 H0 c t
  exact ⟨s1, s2, ext_getL hx5 gm, ext_getL hx5 g4, g6, o4, lt_of_getElem? g4, hx.trans hx5⟩
set_option maxHeartbeats 2000000 in
theorem All_prog (G : Nat → AV) (hG : GOk G) (hT : TupleOk G) (m : Mo) (l : List Cvr) (s : SM) (hm : MoOk m) (hl : ∀ v ∈ l, CvOk v) (hn : l.length ≤ 1048576) (h : Hp) : PCall (En G) 34 [.agg (encM m), .sl s 4 (l.map encV)] h (.tup [.agg (encV (allR m l)), .int .i64 (allE m l)]) := by
  refine PCall.res ?_ (rawR_cv m l _)
  refine pureT 3 (rawR_frz m l _) ?_
  refine acalls_of (H := Hint.none) (enM G) Tryz.func34 rfl (by kernel_rfl) (by kernel_rfl) (Nat.le_of_ble_eq_true (by kernel_rfl)) ?_
  show awp _ _ _ _ _ (endQ _ [.cell 4 28, .tmp 5] _)
  have gm : (h ++ [ABlk.live 2 [encM m]] ++ [ABlk.live 4 [rowZ]])[h.length]? = some (ABlk.live 2 [encM m]) := below_get (top_get _ _)
  have g4 : (h ++ [ABlk.live 2 [encM m]] ++ [ABlk.live 4 [rowZ]])[(h ++ [ABlk.live 2 [encM m]]).length]? = some (ABlk.live 4 [rowZ]) := top_get _ _
  have o4 : h.length < (h ++ [ABlk.live 2 [encM m]]).length := by simp
  have hx : ext h (h ++ [ABlk.live 2 [encM m]] ++ [ABlk.live 4 [rowZ]]) := ((ext.rfl' h).app _).app _
  simp -implicitDefEqProofs only [awp_seq, awp_reg, seqQ_n, WW_one, WW_nil, none_md, none_fz, frz_nil, ownOp, wc_app, wcont_s, upd_app, ev_tmp, ev_const, av_int, x_assign, x_alloc, x_box, x_load, holdsO_some, frameOf_zero, ↓reduceIte, Nat.reduceEqDiff, Option.getD_some, Bool.not_false, enP, bxM, al28']
  generalize h ++ [ABlk.live 2 [encM m]] ++ [ABlk.live 4 [rowZ]] = H0 at gm g4 hx ⊢
  generalize (h ++ [ABlk.live 2 [encM m]]).length = b4 at g4 o4 ⊢
  obtain ⟨s1, s2, E⟩ := lay2 (emV m) (emT m) gm g4 o4 hx
  have l4 := lt_of_getElem? g4
  simp -implicitDefEqProofs only [WW_one, none_md, none_fz, frz_nil, ownOp, wc_app, wcont_s, upd_app, ev_tmp, ev_func, X1_call, callA_fn, holdsO_ofO, List.map_cons, List.map_nil, List.append_nil, ↓reduceIte, Option.getD_some, Bool.not_false, ldM gm]
  refine (Empty_prog G hG m hm _).use ?_
  simp -implicitDefEqProofs only [List.getElem?_cons_zero, List.getElem?_cons_succ, awp_seq, awp_reg, awp_cond, seqQ_n, WW_one, WW_nil, none_md, none_fz, frz_nil, ownOp, wc_app, wcont_s, wcont_n, upd_app, ev_tmp, ev_const, av_int, x_move, x_assign, x_alloc, x_store, x_bin, x_extract, ext_tup, holdsO_some, holdsO_ofO, holdsO_ofS, bin_neq, ↓reduceIte, Nat.reduceEqDiff, Option.getD_some, Bool.not_false, enP, Option.getD_none, al28', al47, s1, s2, bne]
  generalize ((H0 ++ [ABlk.live 4 [rowZ]] ++ [ABlk.live 1 [nilR]]).set H0.length (ABlk.live 4 [encV (emV m)])).set (H0 ++ [ABlk.live 4 [rowZ]]).length (ABlk.live 1 [encT (emT m)]) = H1 at E ⊢
  generalize H0.length = b6 at E l4 ⊢
  clear s1 s2 gm g4 hx
  cases h1 : (modelE m == 0)
  · have h1' : modelE m ≠ 0 := by simpa using h1
    have hne := allE_bad (l := l) h1'
    simp -implicitDefEqProofs only [evp_nil, awp_seq, awp_reg, awp_ret, seqQ_n, seqQ_r, cond_t, WW_one, WW_nil, none_md, none_fz, frz_nil, ownOp, wc_app, wcont_s, wcont_n, upd_app, ev_tmp, x_move, x_assign, x_build, x_store, holdsO_ofO, holdsO_ofS, ↓reduceIte, Nat.reduceEqDiff, Option.getD_some, Bool.not_false, enP, Option.getD_none, bd28z, stZ E.g4 rfl]
    rw [end_c1t (ba := b4) (by simp -implicitDefEqProofs only [upd_app, ↓reduceIte, Nat.reduceEqDiff]) (ldRow28 (get_set_eq E.g4) rfl)]
    exact ⟨by simp -implicitDefEqProofs only [upd_app, ↓reduceIte, hne]; rw [rawR_bad (by rw [hne]; exact h1')], E.hx.set (by omega) _⟩
  have h1' : modelE m = 0 := by simpa using h1
  have hem : emV m = emptyV m := by unfold emV; rw [if_pos h1']
  rw [hem] at E
  simp -implicitDefEqProofs only [awp_seq, awp_block, awp_reg, awp_skip, seqQ_n, cond_f, WW_one, WW_nil, none_md, none_fz, frz_nil, ownOp, wc_app, wcont_s, upd_app, ev_tmp, ev_const, av_int, x_move, x_len, holdsO_ofO, frameOf_zero, frameOf_succ, ↓reduceIte, Nat.reduceEqDiff, Option.getD_some, Bool.not_true, Bool.not_false, enP, ln37, List.length_map]
  refine awp_lp 0 (fun F H => F 1 = .sl s 4 (l.map encV) ∧ F 4 = .ptr b4 0 0 ∧ F 6 = .ptr b6 0 0 ∧ Al h H m (emptyV m) b4 b6 ∧ ∀ v ∈ l, fitsB m v = true) (fun F H => F 4 = .ptr b4 0 0 ∧ F 5 = .int .i64 1 ∧ H[b4]? = some (ABlk.live 4 [rowZ]) ∧ Sm.ext h H ∧ allE m l = 1) ?_ ?_ ?_
  · refine awp_loop (fun n F H => ∃ i, n + i = l.length ∧ F 1 = .sl s 4 (l.map encV) ∧ F 2 = .ptr h.length 0 0 ∧ F 4 = .ptr b4 0 0 ∧ F 6 = .ptr b6 0 0 ∧ F 21 = .sl s 4 (l.map encV) ∧ F 22 = .int .i64 l.length ∧ F 23 = .int .i64 (i : Nat) ∧ Al h H m (emptyV m) b4 b6 ∧ ∀ v ∈ l.take i, fitsB m v = true) l.length ⟨0, by simp, by simp -implicitDefEqProofs only [upd_app, frameOf_zero, frameOf_succ, ↓reduceIte, Nat.reduceEqDiff], by simp -implicitDefEqProofs only [upd_app, ↓reduceIte, Nat.reduceEqDiff], by simp -implicitDefEqProofs only [upd_app, ↓reduceIte, Nat.reduceEqDiff], by simp -implicitDefEqProofs only [upd_app, ↓reduceIte, Nat.reduceEqDiff], by simp -implicitDefEqProofs only [upd_app, ↓reduceIte, Nat.reduceEqDiff], by simp -implicitDefEqProofs only [upd_app, ↓reduceIte, Nat.reduceEqDiff], by simp -implicitDefEqProofs only [upd_app, ↓reduceIte]; rfl, E, by simp⟩ ?_
    clear E
    rintro n F H ⟨i, hi, f1, f2, f4, f6, f21, f22, f23, E, hf⟩
    simp -implicitDefEqProofs only [awp_seq, awp_reg, awp_cond, seqQ_n, WW_one, WW_nil, none_md, none_fz, frz_nil, ownOp, wc_app, wcont_s, upd_app, ev_tmp, x_bin, holdsO_ofO, bin_lss, ↓reduceIte, Option.getD_some, Bool.not_false, enP, f22, f23]
    refine cond_of (fun hc => ?_) (fun hc => ?_)
    · have hi' : i < l.length := by simpa using hc
      have E1 := E.app [ABlk.live 4 [encV l[i]]]
      have gT := ldV (top_get H (ABlk.live 4 [encV l[i]]))
      simp -implicitDefEqProofs only [awp_seq, awp_block, awp_reg, awp_skip, seqQ_n, WW_one, WW_nil, none_md, none_fz, frz_nil, ownOp, wc_app, wcont_s, wcont_n, upd_app, ev_tmp, ev_func, x_alloc, x_load, x_store, x_indexAddr, X1_call, callA_fn, holdsO_some, holdsO_ofO, holdsO_ofS, List.map_cons, List.map_nil, List.append_nil, ↓reduceIte, Nat.reduceEqDiff, Option.getD_some, Bool.not_false, enP, ix37, Option.getD_none, f2, f21, f23, ix_map hi', load_mapA ag28 sz28 encV_len hi', al28', stVtop, ldM E1.gm, gT]
      refine (fits_prog G hG hT m l[i] hm (hl _ (List.getElem_mem hi')) _).use ?_
      simp -implicitDefEqProofs only [awp_cond, seqQ_n, WW_one, WW_nil, none_md, none_fz, frz_nil, ownOp, wc_app, wcont_s, upd_app, ev_tmp, x_un, holdsO_ofO, un_not, ↓reduceIte, Option.getD_some, Bool.not_false]
      cases hv : fitsB m l[i]
      · simp -implicitDefEqProofs only [evp_nil, awp_seq, awp_reg, awp_ret, seqQ_n, seqQ_r, blk_r, lp_r, rnd_r, cond_t, WW_one, WW_nil, none_md, none_fz, frz_nil, ownOp, wc_app, wcont_s, wcont_n, upd_app, ev_tmp, ev_const, av_int, x_assign, x_build, x_store, holdsO_ofO, holdsO_ofS, ↓reduceIte, Nat.reduceEqDiff, Option.getD_some, Bool.not_false, enP, Option.getD_none, bd28z, f4, stZ E1.g4 rfl]
        exact ⟨trivial, trivial, get_set_eq E1.g4, E1.hx.set (by have := E1.o4; omega) _, allE_one h1' (List.getElem_mem hi') hv⟩
      · simp -implicitDefEqProofs only [awp_reg, awp_skip, seqQ_n, blk_n, rnd_n, cond_f, WW_one, WW_nil, none_md, none_fz, frz_nil, ownOp, wc_app, wcont_s, upd_app, ev_tmp, ev_const, av_int, x_move, x_bin, holdsO_ofO, bin_add, ↓reduceIte, Nat.reduceEqDiff, Option.getD_some, Bool.not_true, Bool.not_false, enP, f23, wrap_succ (show i < 9223372036854775807 by omega)]
        refine ⟨n - 1, by omega, i + 1, by omega, f1, f2, f4, f6, f21, f22, rfl, E1, fun v hv' => ?_⟩
        rw [List.take_succ_eq_append_getElem hi'] at hv'
        rcases List.mem_append.1 hv' with hv' | hv'
        · exact hf v hv'
        · simp at hv'; rw [hv']; exact hv
    · have hi' : ¬ i < l.length := by simpa using hc
      rw [List.take_of_length_le (by omega)] at hf
      simp -implicitDefEqProofs only [awp_exit, seqQ_e, lp_e, rnd_e, upd_app, ↓reduceIte, Nat.reduceEqDiff]
      exact ⟨f1, f4, f6, E, hf⟩
  · rintro F H ⟨f1, f4, f6, E, hf⟩
    have hz : allE m l = 0 := allE_zero.2 ⟨h1', hf⟩
    have o6 := E.o6
    simp -implicitDefEqProofs only [awp_seq, awp_reg, seqQ_n, blk_e, WW_one, none_md, none_fz, frz_nil, ownOp, wc_app, wcont_s, upd_app, ev_tmp, ev_func, x_move, x_load, X1_call, callA_fn, holdsO_ofO, List.map_cons, List.map_nil, List.append_nil, ↓reduceIte, Nat.reduceEqDiff, Option.getD_some, Bool.not_false, enP, f1, f4, f6, ldV E.g6]
    refine (merge_prog G m (emptyV m) l s _ (fitsB_empty h1') hf hn).use ?_
    simp -implicitDefEqProofs only [awp_ret, seqQ_n, WW_one, WW_nil, none_md, none_fz, frz_nil, ownOp, wc_app, wcont_s, wcont_n, upd_app, ev_tmp, ev_const, av_int, x_assign, x_store, holdsO_ofS, ↓reduceIte, Nat.reduceEqDiff, Option.getD_some, Bool.not_false, enP, Option.getD_none, f4, stV E.g4 rfl]
    rw [end_c1t (ba := b4) (by simp -implicitDefEqProofs only [upd_app, ↓reduceIte, Nat.reduceEqDiff, f4]) (ldV (get_set_eq E.g4))]
    exact ⟨by simp -implicitDefEqProofs only [upd_app, ↓reduceIte]; unfold rawR allV; rw [hz]; rfl, E.hx.set (by omega) _⟩
  · rintro F H ⟨f4, f5, g4, hx, he⟩
    simp -implicitDefEqProofs only [seqQ_r, blk_r]
    rw [end_c1t (ba := b4) f4 (ldRow28 g4 rfl)]
    exact ⟨by rw [f5, he, rawR_bad (by rw [he]; decide)], hx⟩
set_option maxHeartbeats 1000000 in
theorem Merge_prog (G : Nat → AV) (hG : GOk G) (hT : TupleOk G) (m : Mo) (a b : Cvr) (hm : MoOk m) (ha : CvOk a) (hb : CvOk b) (h : Hp) : PCall (En G) 37 [.agg (encM m), .agg (encV a), .agg (encV b)] h (.tup [.agg (encV (allR m [a, b])), .int .i64 (allE m [a, b])]) := by
  refine pureT 3 (fun n H => rfl) ?_
  refine acalls_of (H := Hint.none) (enM G) Tryz.func37 rfl (by kernel_rfl) (by kernel_rfl) (Nat.le_of_ble_eq_true (by kernel_rfl)) ?_
  show awp _ _ _ _ _ (endQ _ [.cell 6 28, .tmp 7] _)
  have t := Mr.mk' h m a b
  simp -implicitDefEqProofs only [awp_seq, awp_reg, seqQ_n, WW_one, WW_nil, none_md, none_fz, frz_nil, ownOp, wc_app, wcont_s, upd_app, ev_tmp, ev_const, av_int, x_assign, x_alloc, x_box, x_load, holdsO_some, frameOf_zero, frameOf_succ, ↓reduceIte, Nat.reduceEqDiff, Option.getD_some, Bool.not_false, enP, bxM, bxV, al28']
  generalize h ++ [ABlk.live 2 [encM m]] ++ [ABlk.live 4 [encV a]] ++ [ABlk.live 4 [encV b]] ++ [ABlk.live 4 [rowZ]] = H at t ⊢
  generalize (h ++ [ABlk.live 2 [encM m]] ++ [ABlk.live 4 [encV a]] ++ [ABlk.live 4 [encV b]]).length = b6 at t ⊢
  generalize (h ++ [ABlk.live 2 [encM m]] ++ [ABlk.live 4 [encV a]]).length = b5 at t ⊢
  generalize (h ++ [ABlk.live 2 [encM m]]).length = b4 at t ⊢
  have o4 := t.o4; have o5 := t.o5; have o6 := t.o6
  simp -implicitDefEqProofs only [evp_nil, evp_cons, WW_one, none_md, none_fz, frz_nil, ownOp, wc_app, wcont_s, upd_app, ev_tmp, ev_func, x_buildSlice, x_load, X1_call, callA_fn, holdsO_some, holdsO_ofO, List.map_cons, List.map_nil, List.append_nil, ↓reduceIte, Nat.reduceEqDiff, Option.getD_some, Bool.not_false, enP, ldM t.gm, ldV t.ga, ldV t.gb, bs37]
  refine (All_prog G hG hT m [a, b] .full hm (fun v hv => by simp at hv; rcases hv with rfl | rfl <;> assumption) (by simp) _).use ?_
  simp -implicitDefEqProofs only [List.getElem?_cons_zero, List.getElem?_cons_succ, awp_ret, seqQ_n, WW_one, WW_nil, none_md, none_fz, frz_nil, ownOp, wc_app, wcont_s, wcont_n, upd_app, ev_tmp, x_assign, x_store, x_extract, ext_tup, holdsO_ofO, holdsO_ofS, ↓reduceIte, Nat.reduceEqDiff, Option.getD_some, Bool.not_false, enP, Option.getD_none, stV t.g6 rfl]
  rw [end_c1t (ba := b6) (by simp -implicitDefEqProofs only [upd_app, ↓reduceIte, Nat.reduceEqDiff]) (ldV (get_set_eq t.g6))]
  exact ⟨by simp -implicitDefEqProofs only [upd_app, ↓reduceIte], t.hx.set (by omega) _⟩
set_option maxHeartbeats 2000000 in
theorem All_ref (G : Nat → AV) (m : Mo) (l : List Cvr) (s : SM) (hm : MoOk m) (hl : ∀ v ∈ l, CvOk v) (hn : l.length ≤ 1048576) (h : Hp) : PCall (En G) 35 [.agg (encM m), .sl s 4 (l.map encV)] h (.tup [.agg (encV (allR m l)), .int .i64 (allE m l)]) := by
  refine PCall.res ?_ (rawR_cv m l _)
  refine pureT 3 (rawR_frz m l _) ?_
  refine acalls_of (H := hint [35] []) (enM G) Tryz.func35 rfl (by kernel_rfl) (by kernel_rfl) (Nat.le_of_ble_eq_true (by kernel_rfl)) ?_
  show awp _ _ _ _ _ (endQ _ [.cell 4 28, .tmp 5] _)
  have gm : (h ++ [ABlk.live 2 [encM m]] ++ [ABlk.live 4 [rowZ]])[h.length]? = some (ABlk.live 2 [encM m]) := below_get (top_get _ _)
  have g4 : (h ++ [ABlk.live 2 [encM m]] ++ [ABlk.live 4 [rowZ]])[(h ++ [ABlk.live 2 [encM m]]).length]? = some (ABlk.live 4 [rowZ]) := top_get _ _
  have o4 : h.length < (h ++ [ABlk.live 2 [encM m]]).length := by simp
  have hx : ext h (h ++ [ABlk.live 2 [encM m]] ++ [ABlk.live 4 [rowZ]]) := ((ext.rfl' h).app _).app _
  simp -implicitDefEqProofs only [hint_md, List.contains_cons, List.contains_nil, Nat.reduceBEq, Bool.or_false, awp_seq, awp_reg, seqQ_n, WW_one, WW_nil, frz_nil, ownOp, wc_app, wcont_s, upd_app, ev_tmp, ev_const, av_int, x_assign, x_alloc, x_box, x_load, holdsO_some, frameOf_zero, ↓reduceIte, Nat.reduceEqDiff, Option.getD_some, Bool.not_false, enP, hint_fz0, bxM, al28']
  generalize h ++ [ABlk.live 2 [encM m]] ++ [ABlk.live 4 [rowZ]] = H0 at gm g4 hx ⊢
  generalize (h ++ [ABlk.live 2 [encM m]]).length = b4 at g4 o4 ⊢
  obtain ⟨s1, s2, E⟩ := lay2 (emV m) (emTr m) gm g4 o4 hx
  have l4 := lt_of_getElem? g4
  simp -implicitDefEqProofs only [hint_md, List.contains_cons, List.contains_nil, Nat.reduceBEq, Bool.or_false, WW_one, frz_nil, ownOp, wc_app, wcont_s, upd_app, ev_tmp, ev_func, X1_call, callA_fn, holdsO_ofO, List.map_cons, List.map_nil, List.append_nil, ↓reduceIte, Option.getD_some, Bool.not_false, hint_fz0, ldM gm]
  refine (Empty_ref G m hm _).use ?_
  simp -implicitDefEqProofs only [List.getElem?_cons_zero, List.getElem?_cons_succ, hint_md, List.contains_cons, List.contains_nil, Nat.reduceBEq, Bool.or_false, awp_seq, awp_reg, awp_cond, seqQ_n, WW_one, WW_nil, frz_nil, ownOp, wc_app, wcont_s, wcont_n, upd_app, ev_tmp, ev_const, av_int, x_move, x_assign, x_alloc, x_store, x_bin, x_extract, ext_tup, holdsO_some, holdsO_ofO, holdsO_ofS, bin_neq, ↓reduceIte, Nat.reduceEqDiff, Option.getD_some, Bool.not_false, enP, hint_fz0, Option.getD_none, al28', al47, s1, s2, bne]
  generalize ((H0 ++ [ABlk.live 4 [rowZ]] ++ [ABlk.live 1 [nilR]]).set H0.length (ABlk.live 4 [encV (emV m)])).set (H0 ++ [ABlk.live 4 [rowZ]]).length (ABlk.live 1 [encT (emTr m)]) = H1 at E ⊢
  generalize H0.length = b6 at E l4 ⊢
  clear s1 s2 gm g4 hx
  cases h1 : (modelE m == 0)
  · have h1' : modelE m ≠ 0 := by simpa using h1
    have hne := allE_bad (l := l) h1'
    simp -implicitDefEqProofs only [evp_nil, hint_md, List.contains_cons, List.contains_nil, Nat.reduceBEq, Bool.or_false, awp_seq, awp_reg, awp_ret, seqQ_n, seqQ_r, cond_t, WW_one, WW_nil, frz_nil, ownOp, wc_app, wcont_s, wcont_n, upd_app, ev_tmp, x_move, x_assign, x_build, x_store, holdsO_ofO, holdsO_ofS, ↓reduceIte, Nat.reduceEqDiff, Option.getD_some, Bool.not_false, enP, hint_fz0, Option.getD_none, bd28z, stZ E.g4 rfl]
    rw [end_c1t (ba := b4) (by simp -implicitDefEqProofs only [upd_app, ↓reduceIte, Nat.reduceEqDiff]) (ldRow28 (get_set_eq E.g4) rfl)]
    exact ⟨by simp -implicitDefEqProofs only [upd_app, ↓reduceIte, hne]; rw [rawR_bad (by rw [hne]; exact h1')], E.hx.set (by omega) _⟩
  have h1' : modelE m = 0 := by simpa using h1
  have hem : emV m = emptyV m := by unfold emV; rw [if_pos h1']
  rw [hem] at E
  simp -implicitDefEqProofs only [hint_md, List.contains_cons, List.contains_nil, Nat.reduceBEq, Bool.or_false, awp_seq, awp_block, awp_reg, awp_skip, seqQ_n, cond_f, WW_one, WW_nil, frz_nil, ownOp, wc_app, wcont_s, ev_const, av_int, x_assign, Option.getD_some, Bool.not_true, Bool.not_false, hint_fz0]
  refine awp_lp 0 (fun F H => F 4 = .ptr b4 0 0 ∧ F 6 = .ptr b6 0 0 ∧ Al h H m (allV m l) b4 b6 ∧ ∀ v ∈ l, fitsB m v = true) (fun F H => F 4 = .ptr b4 0 0 ∧ F 5 = .int .i64 1 ∧ H[b4]? = some (ABlk.live 4 [rowZ]) ∧ Sm.ext h H ∧ allE m l = 1) ?_ ?_ ?_
  · refine awp_loop (fun n F H => ∃ i, n + i = l.length ∧ F 1 = .sl s 4 (l.map encV) ∧ F 2 = .ptr h.length 0 0 ∧ F 4 = .ptr b4 0 0 ∧ F 6 = .ptr b6 0 0 ∧ F 9 = .int .i64 (i : Nat) ∧ Al h H m ((l.take i).foldl addV (emptyV m)) b4 b6 ∧ ∀ v ∈ l.take i, fitsB m v = true) l.length ⟨0, by simp, by simp -implicitDefEqProofs only [upd_app, frameOf_zero, frameOf_succ, ↓reduceIte, Nat.reduceEqDiff], by simp -implicitDefEqProofs only [upd_app, ↓reduceIte, Nat.reduceEqDiff], by simp -implicitDefEqProofs only [upd_app, ↓reduceIte, Nat.reduceEqDiff], by simp -implicitDefEqProofs only [upd_app, ↓reduceIte, Nat.reduceEqDiff], by simp -implicitDefEqProofs only [upd_app, ↓reduceIte]; rfl, E, by simp⟩ ?_
    clear E
    rintro n F H ⟨i, hi, f1, f2, f4, f6, f9, E, hf⟩
    simp -implicitDefEqProofs only [hint_md, List.contains_cons, List.contains_nil, Nat.reduceBEq, Bool.or_false, awp_seq, awp_reg, awp_cond, seqQ_n, WW_one, WW_nil, frz_nil, ownOp, wc_app, wcont_s, upd_app, ev_tmp, x_move, x_bin, x_len, holdsO_ofO, bin_lss, ↓reduceIte, Nat.reduceEqDiff, Option.getD_some, Bool.not_false, enP, ln37, hint_fz0, f1, f9, List.length_map]
    refine cond_of (fun hc => ?_) (fun hc => ?_)
    · have hi' : i < l.length := by simpa using hc
      have hs := fold_step l (emptyV m) i hi'
      have hc1 := fold_fits (l.take i) (emptyV m) (fitsB_empty h1') hf
      generalize (l.take i).foldl addV (emptyV m) = c at hs hc1 E
      have o4 := E.o4; have o6 := E.o6; have l6 := lt_of_getElem? E.g6
      have E2 := E.app [ABlk.live 4 [encV (mrgV m c l[i])]]
      simp -implicitDefEqProofs only [awp_seq, awp_block, awp_skip, seqQ_n]
      refine awp_draw (by kernel_rfl) ?_
      simp -implicitDefEqProofs only [YO_f, hint_md, List.contains_cons, List.contains_nil, Nat.reduceBEq, Bool.or_false, dc_app, dcont_s, DD_one, y_move, y_load, y_indexAddr, y_extract, Y1_call, callP_fnX, upd_app, ev_tmp, ev_func, x_load, x_indexAddr, x_extract, holdsO_ofO, List.map_cons, List.map_nil, List.append_nil, ↓reduceIte, Nat.reduceEqDiff, Nat.reduceAdd, Option.getD_some, enP, ix37, f1, f2, f6, f9, ldM E.gm, ldV E.g6, ix_map hi', load_mapA ag28 sz28 encV_len hi']
      refine ⟨_, fun x => Merge_ref G m c l[i] hm (cvOk_fits hc1) (hl _ (List.getElem_mem hi')) _, ?_⟩
      try simp -implicitDefEqProofs only [YO_f, List.getElem?_cons_zero, List.getElem?_cons_succ, hint_md, List.contains_cons, List.contains_nil, Nat.reduceBEq, Bool.or_false, dc_app, dcont_s, dcont_n, DD_nil, DD_one, y_assign, y_alloc, y_store, y_extract, awp_seq, awp_reg, awp_cond, seqQ_n, WW_one, WW_nil, frz_nil, ownOp, wc_app, wcont_s, upd_app, ev_tmp, ev_const, av_int, x_move, x_alloc, x_store, x_bin, x_extract, ext_tup, holdsO_some, holdsO_ofO, holdsO_ofS, bin_neq, ↓reduceIte, Nat.reduceEqDiff, Nat.reduceAdd, Nat.zero_add, Option.getD_some, Bool.not_false, enP, hint_fz0, Option.getD_none, al28', stVtop, bne]
      cases hv : fitsB m l[i]
      · have h2 : allE m [c, l[i]] = 1 := allE_one h1' (by simp) hv
        have z1 : ((1 : Int) == 0) = false := rfl
        simp -implicitDefEqProofs only [evp_nil, hint_md, List.contains_cons, List.contains_nil, Nat.reduceBEq, Bool.or_false, awp_seq, awp_reg, awp_ret, seqQ_n, seqQ_r, blk_r, lp_r, rnd_r, cond_t, WW_one, WW_nil, frz_nil, ownOp, wc_app, wcont_s, wcont_n, upd_app, ev_tmp, x_move, x_assign, x_build, x_store, holdsO_ofO, holdsO_ofS, ↓reduceIte, Nat.reduceEqDiff, Option.getD_some, Bool.not_false, enP, hint_fz0, Option.getD_none, h2, z1, bd28z, f4, stZ E2.g4 rfl]
        exact ⟨trivial, trivial, get_set_eq E2.g4, E2.hx.set (by omega) _, allE_one h1' (List.getElem_mem hi') hv⟩
      · have h2 : allE m [c, l[i]] = 0 := allE_two hc1 hv
        have h3 : mrgV m c l[i] = addV c l[i] := by unfold mrgV; rw [if_pos h2]
        rw [h3] at E2
        have E3 := E2.put6 (addV c l[i])
        have gT := ldV (top_get H (ABlk.live 4 [encV (addV c l[i])]))
        have z0 : ((0 : Int) == 0) = true := rfl
        simp -implicitDefEqProofs only [hint_md, List.contains_cons, List.contains_nil, Nat.reduceBEq, Bool.or_false, awp_reg, awp_skip, seqQ_n, blk_n, rnd_n, cond_f, WW_one, WW_nil, frz_nil, ownOp, wc_app, wcont_s, wcont_n, upd_app, ev_tmp, ev_const, av_int, x_move, x_assign, x_load, x_store, x_bin, holdsO_ofO, holdsO_ofS, bin_add, ↓reduceIte, Nat.reduceEqDiff, Option.getD_some, Bool.not_true, Bool.not_false, enP, hint_fz0, Option.getD_none, h2, h3, z0, f6, gT, stV E2.g6 rfl, f9, wrap_succ (show i < 9223372036854775807 by omega)]
        refine ⟨n - 1, by omega, i + 1, by omega, f1, f2, f4, trivial, rfl, ?_, fun v hv' => ?_⟩
        · rw [hs]; exact E3
        rw [List.take_succ_eq_append_getElem hi'] at hv'
        rcases List.mem_append.1 hv' with hv' | hv'
        · exact hf v hv'
        · simp at hv'; rw [hv']; exact hv
    · have hi' : ¬ i < l.length := by simpa using hc
      rw [List.take_of_length_le (by omega)] at hf E
      simp -implicitDefEqProofs only [awp_exit, seqQ_e, lp_e, rnd_e, upd_app, ↓reduceIte, Nat.reduceEqDiff]
      exact ⟨f4, f6, E, hf⟩
  · rintro F H ⟨f4, f6, E, hf⟩
    have hz : allE m l = 0 := allE_zero.2 ⟨h1', hf⟩
    have o4 := E.o4
    simp -implicitDefEqProofs only [hint_md, List.contains_cons, List.contains_nil, Nat.reduceBEq, Bool.or_false, awp_seq, awp_reg, awp_ret, seqQ_n, blk_e, WW_one, WW_nil, frz_nil, ownOp, wc_app, wcont_s, wcont_n, upd_app, ev_tmp, ev_const, av_int, x_assign, x_load, x_store, holdsO_ofO, holdsO_ofS, ↓reduceIte, Nat.reduceEqDiff, Option.getD_some, Bool.not_false, enP, hint_fz0, Option.getD_none, f4, f6, ldV E.g6, stV E.g4 rfl]
    rw [end_c1t (ba := b4) (by simp -implicitDefEqProofs only [upd_app, ↓reduceIte, Nat.reduceEqDiff, f4]) (ldV (get_set_eq E.g4))]
    exact ⟨by simp -implicitDefEqProofs only [upd_app, ↓reduceIte]; unfold rawR; rw [hz]; rfl, E.hx.set (by omega) _⟩
  · rintro F H ⟨f4, f5, g4, hx, he⟩
    simp -implicitDefEqProofs only [seqQ_r, blk_r]
    rw [end_c1t (ba := b4) f4 (ldRow28 g4 rfl)]
    exact ⟨by rw [f5, he, rawR_bad (by rw [he]; decide)], hx⟩
end Go.Proofs.YtocilianjfhifaaGreatDoor.Cov
/- The law MergeAdds; no condition but the variables that are laid, the bounds on lengths, and cover.tuple's contract. -/
set_option linter.unusedSimpArgs false
set_option maxRecDepth 8000
namespace Go.Proofs.YtocilianjfhifaaGreatDoor.Cov
open Go Go.Proofs Go.Proofs.YtocilianjfhifaaGreatDoor.Sm Go.Proofs.YtocilianjfhifaaGreatDoor.Bins Go.RowKit

theorem mrg_ok {m : Mo} {a b : Cvr} : CvOk (mrgV m a b) := by
  unfold mrgV
  split
  · rename_i hz
    have := allE_zero.1 hz
    exact cvOk_fits (fitsB_add (this.2 a (by simp)) (this.2 b (by simp)))
  · exact ⟨by decide, by decide, fun x hx => (by cases hx), fun x hx => (by cases hx)⟩
theorem zV_ok : CvOk zV := ⟨by decide, by decide, fun x hx => (by cases hx), fun x hx => (by cases hx)⟩
theorem allR_ok {m : Mo} {l : List Cvr} : CvOk (allR m l) := by
  by_cases hz : allE m l = 0
  · exact cvOk_fits (allR_fits hz)
  · unfold allR; rw [if_neg hz]; exact zV_ok
/-- a model and two coverages -/
structure Ad (h H : Hp) (m : Mo) (a b : Cvr) (ab bb : Nat) : Prop where
  gm : H[h.length]? = some (ABlk.live 2 [encM m])
  ga : H[ab]? = some (ABlk.live 4 [encV a])
  gb : H[bb]? = some (ABlk.live 4 [encV b])
  o1 : h.length < ab
  o2 : ab < bb
  hx : ∃ x, H = h ++ x
set_option maxHeartbeats 2000000 in
theorem law_adds (G : Nat → AV) (hG : GOk G) (hT : TupleOk G) (m : Mo) (s : SM) (l : List Cvr) (hm : MoOk m) (hl : ∀ v ∈ l, CvOk v) (hn : l.length ≤ 1048576) (h : Hp) : PCall (En G) 4 [.agg (encM m), .sl s 4 (l.map encV)] h (.bool true) := by
  refine ACalls.pure0 rfl ?_
  refine acalls_of (H := Hint.none) (enM G) Tryz.func4 rfl (by kernel_rfl) (by kernel_rfl) (Nat.le_of_ble_eq_true (by kernel_rfl)) ?_
  show awp _ _ _ _ _ (endQ _ [.tmp 4] _)
  have e1 : min ((l.length : Nat) : Int) 6 = ((min l.length 6 : Nat) : Int) := by omega
  have gm := top_get h (ABlk.live 2 [encM m])
  simp -implicitDefEqProofs only [Option.map_some, Option.map_none, awp_seq, awp_reg, seqQ_n, WW_one, WW_nil, none_md, none_fz, frz_nil, ownOp, wc_app, wcont_s, upd_app, ev_tmp, ev_const, av_int, av_bool, x_move, x_assign, x_box, x_load, x_slice, x_len, x_min, holdsO_some, holdsO_ofO, min_ii, frameOf_zero, frameOf_succ, ↓reduceIte, Nat.reduceEqDiff, Option.getD_some, Bool.not_false, enP, ln37, bxM, List.length_map, e1, sl_to ud37 sz28 (h := h ++ [ABlk.live 2 [encM m]]) (m := s) (kk := .i64) (xs := l.map encV) (u := min l.length 6) (by simp; omega), ← List.map_take]
  have hl' : ∀ v ∈ l.take (min l.length 6), CvOk v := fun v hv => hl v (List.mem_of_mem_take hv)
  have hn' : (l.take (min l.length 6)).length ≤ 1048576 := by rw [List.length_take]; omega
  generalize l.take (min l.length 6) = k at hl' hn' ⊢
  generalize cutM s (min l.length 6) l.length = s'
  clear e1
  have gm1 := below_get (x := .live 4 [encV (allR m k)]) gm
  simp -implicitDefEqProofs only [WW_one, none_md, none_fz, frz_nil, ownOp, wc_app, wcont_s, upd_app, ev_tmp, ev_func, x_move, X1_call, callA_fn, holdsO_ofO, List.map_cons, List.map_nil, List.append_nil, ↓reduceIte, Nat.reduceEqDiff, Option.getD_some, Bool.not_false, ldM gm]
  refine (All_prog G hG hT m k s' hm hl' hn' _).use ?_
  simp -implicitDefEqProofs only [List.getElem?_cons_zero, List.getElem?_cons_succ, awp_seq, awp_reg, seqQ_n, WW_one, WW_nil, none_md, none_fz, frz_nil, ownOp, wc_app, wcont_s, wcont_n, upd_app, ev_tmp, ev_func, x_move, x_assign, x_alloc, x_load, x_store, x_extract, ext_tup, X1_call, callA_fn, holdsO_some, holdsO_ofO, holdsO_ofS, List.map_cons, List.map_nil, List.append_nil, ↓reduceIte, Nat.reduceEqDiff, Option.getD_some, Bool.not_false, enP, Option.getD_none, al28', stVtop, ldM gm1]
  refine (All_ref G m k s' hm hl' hn' _).use ?_
  simp -implicitDefEqProofs only [List.getElem?_cons_zero, List.getElem?_cons_succ, awp_seq, awp_reg, seqQ_n, WW_one, WW_nil, none_md, none_fz, frz_nil, ownOp, wc_app, wcont_s, wcont_n, upd_app, ev_tmp, x_move, x_assign, x_alloc, x_load, x_store, x_extract, ext_tup, holdsO_some, holdsO_ofO, holdsO_ofS, ↓reduceIte, Nat.reduceEqDiff, Option.getD_some, Bool.not_false, enP, Option.getD_none, al28', stVtop]
  have t : Ad h (h ++ [ABlk.live 2 [encM m]] ++ [ABlk.live 4 [encV (allR m k)]] ++ [ABlk.live 4 [encV (allR m k)]]) m (allR m k) (allR m k) (h ++ [ABlk.live 2 [encM m]]).length (h ++ [ABlk.live 2 [encM m]] ++ [ABlk.live 4 [encV (allR m k)]]).length :=
    ⟨below_get (below_get gm), below_get (top_get _ _), top_get _ _, by simp, by simp, ⟨_, by rw [List.append_assoc, List.append_assoc]⟩⟩
  generalize h ++ [ABlk.live 2 [encM m]] ++ [ABlk.live 4 [encV (allR m k)]] ++ [ABlk.live 4 [encV (allR m k)]] = H at t ⊢
  generalize (h ++ [ABlk.live 2 [encM m]] ++ [ABlk.live 4 [encV (allR m k)]]).length = bb at t ⊢
  generalize (h ++ [ABlk.live 2 [encM m]]).length = ab at t ⊢
  clear gm gm1
  have o1 := t.o1; have o2 := t.o2
  have ee : (allE m k == allE m k) = true := by simp
  simp -implicitDefEqProofs only [WW_one, none_md, none_fz, frz_nil, ownOp, wc_app, wcont_s, upd_app, ev_tmp, ev_func, x_load, X1_call, callA_fn, holdsO_ofO, List.map_cons, List.map_nil, List.append_nil, ↓reduceIte, Nat.reduceEqDiff, Option.getD_some, Bool.not_false, enP, ldV t.ga, ldV t.gb]
  refine (same_V G _ _ _ allR_ok allR_ok).use ?_
  simp -implicitDefEqProofs only [awp_seq, awp_reg, awp_skip, awp_cond, seqQ_n, cond_f, WW_one, WW_nil, WW_guardE, GX_some, gdstO, G1_ff, none_md, none_fz, frz_nil, ownOp, wc_app, wcont_s, upd_app, ev_tmp, ev_const, av_int, av_bool, x_move, x_pick, pick_f, x_bin, x_un, x_len, holdsO_ofO, bin_neq, bin_gtr, un_not, ↓reduceIte, Nat.reduceEqDiff, Option.getD_some, Bool.not_true, Bool.not_false, enP, ln37, eqV_self, bne, ee, List.length_map]
  refine cond_of (fun hc => ?_) (fun hc => ?_)
  · have h2 : 1 < k.length := by simp at hc; omega
    have h1 : 0 < k.length := by omega
    have i0 : ∀ H : Hp, ixSl 4 H (.sl s' 4 (k.map encV)) (.int .i64 0) = some (.fptr 4 (k.map encV) 0 0) := fun H => ix_map h1
    have i1 : ∀ H : Hp, ixSl 4 H (.sl s' 4 (k.map encV)) (.int .i64 1) = some (.fptr 4 (k.map encV) 1 0) := fun H => ix_map h2
    have x1 := hl' _ (List.getElem_mem h1)
    have x2 := hl' _ (List.getElem_mem h2)
    have st1 := stV (v := allR m [k[0], k[1]]) t.ga rfl
    have ga' : (H.set ab (ABlk.live 4 [encV (allR m [k[0], k[1]])]))[ab]? = some (ABlk.live 4 [encV (allR m [k[0], k[1]])]) := get_set_eq t.ga
    have gb' : (H.set ab (ABlk.live 4 [encV (allR m [k[0], k[1]])]))[bb]? = some (ABlk.live 4 [encV (allR m k)]) := get_set_ne t.gb (by omega)
    have gm' : (H.set ab (ABlk.live 4 [encV (allR m [k[0], k[1]])]))[h.length]? = some (ABlk.live 2 [encM m]) := get_set_ne t.gm (by omega)
    have hx' : ∃ x, (H.set ab (ABlk.live 4 [encV (allR m [k[0], k[1]])])) = h ++ x := ext.set (h := h) t.hx (by omega) _
    simp -implicitDefEqProofs only [awp_seq]
    refine awp_draw (by kernel_rfl) ?_
    simp -implicitDefEqProofs only [YO_f, dc_app, dcont_s, DD_one, y_move, y_load, y_indexAddr, y_extract, Y1_call, callP_fn, none_md, upd_app, ev_tmp, ev_const, ev_func, av_int, x_load, x_indexAddr, x_extract, holdsO_ofO, List.map_cons, List.map_nil, List.append_nil, ↓reduceIte, Nat.reduceEqDiff, Nat.reduceAdd, Option.getD_some, enP, ix37, ldM t.gm, i0, i1, load_mapA ag28 sz28 encV_len h1, load_mapA ag28 sz28 encV_len h2]
    refine ⟨_, Merge_prog G hG hT m k[0] k[1] hm x1 x2 _, ?_⟩
    try simp -implicitDefEqProofs only [YO_f, List.getElem?_cons_zero, List.getElem?_cons_succ, dc_app, dcont_s, dcont_n, DD_nil, DD_one, y_assign, y_store, y_extract, seqQ_n, none_md, upd_app, ev_tmp, x_store, x_extract, ext_tup, holdsO_ofO, holdsO_ofS, ↓reduceIte, Nat.reduceEqDiff, Nat.reduceAdd, Nat.zero_add, Option.getD_some, enP, Option.getD_none, st1]
    generalize H.set ab (ABlk.live 4 [encV (allR m [k[0], k[1]])]) = H1 at ga' gb' gm' hx' ⊢
    have st2 := stV (v := mrgV m k[0] k[1]) gb' rfl
    have ga2 : (H1.set bb (ABlk.live 4 [encV (mrgV m k[0] k[1])]))[ab]? = some (ABlk.live 4 [encV (allR m [k[0], k[1]])]) := get_set_ne ga' (by omega)
    have gb2 : (H1.set bb (ABlk.live 4 [encV (mrgV m k[0] k[1])]))[bb]? = some (ABlk.live 4 [encV (mrgV m k[0] k[1])]) := get_set_eq gb'
    have hx2 : ∃ x, (H1.set bb (ABlk.live 4 [encV (mrgV m k[0] k[1])])) = h ++ x := ext.set (h := h) hx' (by omega) _
    refine awp_draw (by kernel_rfl) ?_
    simp -implicitDefEqProofs only [YO_f, dc_app, dcont_s, DD_one, y_move, y_load, y_indexAddr, y_extract, Y1_call, callP_fn, none_md, upd_app, ev_tmp, ev_const, ev_func, av_int, x_load, x_indexAddr, x_extract, holdsO_ofO, List.map_cons, List.map_nil, List.append_nil, ↓reduceIte, Nat.reduceEqDiff, Nat.reduceAdd, Option.getD_some, enP, ix37, ldM gm', i0, i1, load_mapA ag28 sz28 encV_len h1, load_mapA ag28 sz28 encV_len h2]
    refine ⟨_, Merge_ref G m k[0] k[1] hm x1 x2 _, ?_⟩
    try simp -implicitDefEqProofs only [YO_f, List.getElem?_cons_zero, List.getElem?_cons_succ, dc_app, dcont_s, dcont_n, DD_nil, DD_one, y_assign, y_store, y_extract, awp_seq, awp_reg, seqQ_n, WW_one, none_md, none_fz, frz_nil, ownOp, wc_app, upd_app, ev_tmp, x_load, x_store, x_extract, ext_tup, holdsO_ofO, holdsO_ofS, ↓reduceIte, Nat.reduceEqDiff, Nat.reduceAdd, Nat.zero_add, Option.getD_some, Bool.not_false, enP, Option.getD_none, st2]
    generalize H1.set bb (ABlk.live 4 [encV (mrgV m k[0] k[1])]) = H2 at ga2 gb2 hx2 ⊢
    have e2 : (allE m [k[0], k[1]] == allE m [k[0], k[1]]) = true := by simp
    have e3 : eqV (allR m [k[0], k[1]]) (mrgV m k[0] k[1]) = true := eqV_iff.2 dat_mrg
    simp -implicitDefEqProofs only [WW_one, none_md, none_fz, frz_nil, ownOp, wc_app, wcont_s, upd_app, ev_tmp, ev_func, x_load, X1_call, callA_fn, holdsO_ofO, List.map_cons, List.map_nil, List.append_nil, ↓reduceIte, Nat.reduceEqDiff, Option.getD_some, Bool.not_false, enP, ldV ga2, ldV gb2]
    refine (same_V G _ _ _ allR_ok mrg_ok).use ?_
    simp -implicitDefEqProofs only [WW_one, WW_guardE, GX_some, gdstO, G1_tt, none_md, none_fz, frz_nil, ownOp, wc_app, wcont_s, upd_app, ev_tmp, ev_const, ev_func, av_bool, x_move, x_pick, pick_t, x_bin, X1_call, callA_fn, holdsO_ofO, bin_eql, List.map_nil, List.append_nil, ↓reduceIte, Nat.reduceEqDiff, Option.getD_some, Bool.not_false, enP, e2, e3]
    refine (awake G hG hT _).use ?_
    simp -implicitDefEqProofs only [awp_ret, seqQ_n, end_r, WW_one, WW_nil, none_md, none_fz, frz_nil, ownOp, wc_app, wcont_s, upd_app, ev_tmp, ev_const, av_bool, x_assign, x_pick, pick_t, ↓reduceIte, Nat.reduceEqDiff, Option.getD_some, Bool.not_false]
    exact ⟨trivial, hx2⟩
  · simp -implicitDefEqProofs only [awp_seq, awp_reg, awp_skip, seqQ_n, WW_one, none_md, none_fz, frz_nil, ownOp, wc_app, wcont_s, upd_app, ev_tmp, ev_func, x_load, X1_call, callA_fn, holdsO_ofO, List.map_cons, List.map_nil, List.append_nil, ↓reduceIte, Nat.reduceEqDiff, Option.getD_some, Bool.not_false, enP, ldV t.ga, ldV t.gb]
    refine (same_V G _ _ _ allR_ok allR_ok).use ?_
    simp -implicitDefEqProofs only [WW_one, WW_guardE, GX_some, gdstO, G1_tt, none_md, none_fz, frz_nil, ownOp, wc_app, wcont_s, upd_app, ev_tmp, ev_const, ev_func, av_bool, x_move, x_pick, pick_t, x_bin, X1_call, callA_fn, holdsO_ofO, bin_eql, List.map_nil, List.append_nil, ↓reduceIte, Nat.reduceEqDiff, Option.getD_some, Bool.not_false, enP, eqV_self, ee]
    refine (awake G hG hT _).use ?_
    simp -implicitDefEqProofs only [awp_ret, seqQ_n, end_r, WW_one, WW_nil, none_md, none_fz, frz_nil, ownOp, wc_app, wcont_s, upd_app, ev_tmp, ev_const, av_bool, x_assign, x_pick, pick_t, ↓reduceIte, Nat.reduceEqDiff, Option.getD_some, Bool.not_false]
    exact ⟨trivial, t.hx⟩
end Go.Proofs.YtocilianjfhifaaGreatDoor.Cov
/- The law MergeAlgebra; no condition but the variables that are laid, the bounds on lengths, and cover.tuple's contract. -/
set_option linter.unusedSimpArgs false
set_option maxRecDepth 8000
namespace Go.Proofs.YtocilianjfhifaaGreatDoor.Cov
open Go Go.Proofs Go.Proofs.YtocilianjfhifaaGreatDoor.Sm Go.Proofs.YtocilianjfhifaaGreatDoor.Bins Go.RowKit

/-- three coverages -/
def encA (a b c : Cvr) : List AV := encV a ++ (encV b ++ encV c)
theorem encA_len (a b c : Cvr) : (encA a b c).length = 12 := rfl
def pick3 (a b c : Cvr) (i : Nat) : Cvr := match i with
  | 0 => a
  | 1 => b
  | _ => c
theorem agA : aggO Tryz.prog 44 = some true := by kernel_rfl
theorem szA : szO Tryz.prog 44 = some 12 := by kernel_rfl
theorem bxA (h : Hp) (a b c : Cvr) : aBox h (.agg (encA a b c)) = some (.ptr h.length 0 0, h ++ [ABlk.live 12 [encA a b c]]) := box_agg rfl
theorem ldA {H : Hp} {k : Nat} {a b c : Cvr} (hb : H[k]? = some (ABlk.live 12 [encA a b c])) : aLoad Tryz.prog H 44 (.ptr k 0 0) = some (.agg (encA a b c)) := by
  rw [load_rowA agA szA hb rfl (by rw [encA_len]; exact Nat.le_refl _)]; rfl
theorem ixA0 (a b c : Cvr) : aIndex Tryz.prog 44 (.agg (encA a b c)) (.int .i64 0) = some (.agg (encV a)) := by kernel_rfl
theorem ixA1 (a b c : Cvr) : aIndex Tryz.prog 44 (.agg (encA a b c)) (.int .i64 1) = some (.agg (encV b)) := by kernel_rfl
theorem ixA2 (a b c : Cvr) : aIndex Tryz.prog 44 (.agg (encA a b c)) (.int .i64 2) = some (.agg (encV c)) := by kernel_rfl
theorem ixA (a b c : Cvr) : ∀ i : Nat, i < 3 → aIndex Tryz.prog 44 (.agg (encA a b c)) (.int .i64 (i : Int)) = some (.agg (encV (pick3 a b c i)))
  | 0, _ => ixA0 a b c
  | 1, _ => ixA1 a b c
  | 2, _ => ixA2 a b c
  | i + 3, h => by omega
theorem ia0 (h : Hp) (k : Nat) : aIndexAddr Tryz.prog h 44 (.ptr k 0 0) (.int .i64 0) = some (.ptr k 0 0) := by kernel_rfl
theorem ia1 (h : Hp) (k : Nat) : aIndexAddr Tryz.prog h 44 (.ptr k 0 0) (.int .i64 1) = some (.ptr k 0 4) := by kernel_rfl
theorem ia2 (h : Hp) (k : Nat) : aIndexAddr Tryz.prog h 44 (.ptr k 0 0) (.int .i64 2) = some (.ptr k 0 8) := by kernel_rfl
/-- a model and three coverages -/
structure Lg (h H : Hp) (m : Mo) (a b c : Cvr) (k : Nat) : Prop where
  gm : H[h.length]? = some (ABlk.live 2 [encM m])
  gA : H[k]? = some (ABlk.live 12 [encA a b c])
  hx : ∃ x, H = h ++ x
section
variable {h H : Hp} {m : Mo} {a b c : Cvr} {k : Nat} (L : Lg h H m a b c k)
include L
theorem Lg.app (x : ABlk) : Lg h (H ++ [x]) m a b c k := ⟨below_get L.gm, below_get L.gA, by obtain ⟨y, hy⟩ := L.hx; exact ⟨y ++ [x], by rw [hy, List.append_assoc]⟩⟩
theorem Lg.l0 : aLoad Tryz.prog H 28 (.ptr k 0 0) = some (.agg (encV a)) := by rw [load_rowA ag28 sz28 L.gA rfl (by rw [encA_len]; exact Nat.le_of_ble_eq_true rfl)]; rfl
theorem Lg.l1 : aLoad Tryz.prog H 28 (.ptr k 0 4) = some (.agg (encV b)) := by rw [load_rowA ag28 sz28 L.gA rfl (by rw [encA_len]; exact Nat.le_of_ble_eq_true rfl)]; rfl
theorem Lg.l2 : aLoad Tryz.prog H 28 (.ptr k 0 8) = some (.agg (encV c)) := by rw [load_rowA ag28 sz28 L.gA rfl (by rw [encA_len]; exact Nat.le_of_ble_eq_true rfl)]; rfl
end
set_option maxHeartbeats 4000000 in
theorem law_algebra (G : Nat → AV) (hG : GOk G) (hT : TupleOk G) (m : Mo) (a b c : Cvr) (hm : MoOk m) (ha : CvOk a) (hb : CvOk b) (hc : CvOk c) (h : Hp) : PCall (En G) 5 [.agg (encM m), .agg (encA a b c)] h (.bool true) := by
  refine ACalls.pure0 rfl ?_
  refine acalls_of (H := Hint.none) (enM G) Tryz.func5 rfl (by kernel_rfl) (by kernel_rfl) (Nat.le_of_ble_eq_true (by kernel_rfl)) ?_
  show awp _ _ _ _ _ (endQ _ [.tmp 4] _)
  have L : Lg h (h ++ [ABlk.live 2 [encM m]] ++ [ABlk.live 12 [encA a b c]]) m a b c (h ++ [ABlk.live 2 [encM m]]).length := ⟨below_get (top_get _ _), top_get _ _, ⟨_, by rw [List.append_assoc]⟩⟩
  simp -implicitDefEqProofs only [awp_seq, awp_reg, seqQ_n, WW_one, WW_nil, none_md, none_fz, frz_nil, ownOp, wc_app, wcont_s, upd_app, ev_tmp, ev_const, av_bool, x_assign, x_box, x_load, holdsO_some, frameOf_zero, frameOf_succ, ↓reduceIte, Nat.reduceEqDiff, Option.getD_some, Bool.not_false, enP, bxM, bxA]
  generalize h ++ [ABlk.live 2 [encM m]] ++ [ABlk.live 12 [encA a b c]] = H at L ⊢
  generalize (h ++ [ABlk.live 2 [encM m]]).length = k at L ⊢
  simp -implicitDefEqProofs only [awp_block, seqQ_n, WW_one, WW_nil, none_md, none_fz, frz_nil, ownOp, wc_app, wcont_s, ev_const, av_int, x_move, holdsO_ofO, Option.getD_some, Bool.not_false, ldA L.gA]
  refine awp_lp 0 (fun F H => F 2 = .ptr h.length 0 0 ∧ F 3 = .ptr k 0 0 ∧ Lg h H m a b c k ∧ fitsB m a = true ∧ fitsB m b = true ∧ fitsB m c = true) (fun F H => F 4 = .bool true ∧ ∃ x, H = h ++ x) ?_ ?_ ?_
  · refine awp_loop (fun n F H => ∃ i, n + i = 3 ∧ F 2 = .ptr h.length 0 0 ∧ F 3 = .ptr k 0 0 ∧ F 21 = .agg (encA a b c) ∧ F 22 = .int .i64 (i : Nat) ∧ Lg h H m a b c k ∧ ∀ j, j < i → fitsB m (pick3 a b c j) = true) 3 ⟨0, rfl, by simp -implicitDefEqProofs only [upd_app, ↓reduceIte, Nat.reduceEqDiff], by simp -implicitDefEqProofs only [upd_app, ↓reduceIte, Nat.reduceEqDiff], by simp -implicitDefEqProofs only [upd_app, ↓reduceIte, Nat.reduceEqDiff], by simp -implicitDefEqProofs only [upd_app, ↓reduceIte]; rfl, L, fun j hj => by omega⟩ ?_
    clear L H
    rintro n F H ⟨i, hi, f2, f3, f21, f22, L, hf⟩
    simp -implicitDefEqProofs only [awp_seq, awp_reg, awp_cond, seqQ_n, WW_one, WW_nil, none_md, none_fz, frz_nil, ownOp, wc_app, wcont_s, upd_app, ev_tmp, ev_const, av_int, x_bin, holdsO_ofO, bin_lss, ↓reduceIte, Option.getD_some, Bool.not_false, enP, f22]
    refine cond_of (fun hq => ?_) (fun hq => ?_)
    · have hi' : i < 3 := by simp at hq; omega
      have hp : CvOk (pick3 a b c i) := by
        unfold pick3; split <;> assumption
      have hix := ixA a b c i hi'
      generalize hpv : pick3 a b c i = v at hix hp
      have L1 := L.app (ABlk.live 4 [encV v])
      have gT := ldV (top_get H (ABlk.live 4 [encV v]))
      simp -implicitDefEqProofs only [awp_seq, awp_block, awp_reg, awp_skip, seqQ_n, WW_one, WW_nil, none_md, none_fz, frz_nil, ownOp, wc_app, wcont_s, wcont_n, upd_app, ev_tmp, ev_func, x_alloc, x_load, x_store, x_index, X1_call, callA_fn, holdsO_some, holdsO_ofO, holdsO_ofS, List.map_cons, List.map_nil, List.append_nil, ↓reduceIte, Nat.reduceEqDiff, Option.getD_some, Bool.not_false, enP, Option.getD_none, f2, f21, f22, hix, al28', stVtop, ldM L1.gm, gT]
      refine (fits_ref G m v hm hp _).use ?_
      simp -implicitDefEqProofs only [awp_cond, seqQ_n, WW_one, WW_nil, none_md, none_fz, frz_nil, ownOp, wc_app, wcont_s, upd_app, ev_tmp, x_un, holdsO_ofO, un_not, ↓reduceIte, Option.getD_some, Bool.not_false]
      cases hv : fitsB m v
      · simp -implicitDefEqProofs only [awp_seq, awp_reg, cond_t, WW_one, none_md, none_fz, frz_nil, ownOp, wc_app, ev_func, X1_call, callA_fn, List.map_nil, List.append_nil, Option.getD_some, Bool.not_false]
        refine (awake G hG hT _).use ?_
        simp -implicitDefEqProofs only [awp_ret, seqQ_n, seqQ_r, blk_r, lp_r, rnd_r, WW_one, WW_nil, none_md, none_fz, frz_nil, ownOp, wc_app, wcont_s, upd_app, ev_tmp, x_assign, ↓reduceIte, Option.getD_some, Bool.not_false]
        exact ⟨trivial, L1.hx⟩
      · simp -implicitDefEqProofs only [awp_reg, awp_skip, seqQ_n, blk_n, rnd_n, cond_f, WW_one, WW_nil, none_md, none_fz, frz_nil, ownOp, wc_app, wcont_s, upd_app, ev_tmp, ev_const, av_int, x_move, x_bin, holdsO_ofO, bin_add, ↓reduceIte, Nat.reduceEqDiff, Option.getD_some, Bool.not_true, Bool.not_false, enP, f22, wrap_succ (show i < 9223372036854775807 by omega)]
        refine ⟨n - 1, by omega, i + 1, by omega, f2, f3, f21, rfl, L1, fun j hj => ?_⟩
        rcases Nat.eq_or_lt_of_le (Nat.le_of_lt_succ hj) with e | hj'
        · subst e; rw [hpv]; exact hv
        · exact hf j hj'
    · have hi' : i = 3 := by simp at hq; omega
      subst hi'
      simp -implicitDefEqProofs only [awp_exit, seqQ_e, lp_e, rnd_e, upd_app, ↓reduceIte, Nat.reduceEqDiff]
      exact ⟨f2, f3, L, hf 0 (by omega), hf 1 (by omega), hf 2 (by omega)⟩
  · clear L H
    rintro F H ⟨f2, f3, L, fa, fb, fc⟩
    have h1' := fitsB_good fa
    have hem : emV m = emptyV m := by unfold emV; rw [if_pos h1']
    have fE := fitsB_empty h1'
    have hE := cvOk_fits fE
    have z0 : ((0 : Int) == 0) = true := rfl
    have zab := allE_two fa fb
    have zba := allE_two fb fa
    have zbc := allE_two fb fc
    have dab := dat_two zab
    have dba := dat_two zba
    have dbc := dat_two zbc
    have fab := allR_fits zab
    have fbc := allR_fits zbc
    have zl := allE_two fab fc
    have zr := allE_two fa fbc
    have zs := allE_two fE fa
    have za := allE_three fc fa fb
    have dl := dat_two zl
    have dr := dat_two zr
    have ds := dat_two zs
    have da := dat_three za
    have wa := fitsB_wd fa
    have wb := fitsB_wd fb
    have wc := fitsB_wd fc
    have e1 : eqV (allR m [a, b]) (allR m [b, a]) = true := eqV_iff.2 (by rw [dab, dba, addD_comm])
    have e2 : eqV (allR m [allR m [a, b], c]) (allR m [a, allR m [b, c]]) = true := eqV_iff.2 (by rw [dl, dr, dab, dbc, addD_assoc wa wb wc])
    have e3 : eqV (allR m [emptyV m, a]) a = true := eqV_iff.2 (by rw [ds, addD_zero fa])
    have e4 : eqV (allR m [c, a, b]) (allR m [allR m [a, b], c]) = true := eqV_iff.2 (by rw [da, dl, dab, addD_assoc wc wa wb, addD_comm])
    have oab : CvOk (allR m [a, b]) := allR_ok
    have oba : CvOk (allR m [b, a]) := allR_ok
    have obc : CvOk (allR m [b, c]) := allR_ok
    have ol : CvOk (allR m [allR m [a, b], c]) := allR_ok
    have or' : CvOk (allR m [a, allR m [b, c]]) := allR_ok
    have os : CvOk (allR m [emptyV m, a]) := allR_ok
    have oa : CvOk (allR m [c, a, b]) := allR_ok
    have o3 : ∀ v ∈ [c, a, b], CvOk v := fun v hv => by
      simp at hv; rcases hv with rfl | rfl | rfl <;> assumption
    simp -implicitDefEqProofs only [awp_seq, awp_reg, seqQ_n, blk_e, WW_one, none_md, none_fz, frz_nil, ownOp, wc_app, wcont_s, upd_app, ev_tmp, ev_func, x_load, X1_call, callA_fn, holdsO_ofO, List.map_cons, List.map_nil, List.append_nil, ↓reduceIte, Option.getD_some, Bool.not_false, enP, f2, f3, ldM L.gm]
    refine (Empty_ref G m hm _).use ?_
    obtain ⟨s1, s2, g7, _, hx5⟩ := lay0 H (emV m) (emTr m)
    have L2 : Lg h _ m a b c k := ⟨ext_getL hx5 L.gm, ext_getL hx5 L.gA, ext.trans (a := h) L.hx hx5⟩
    simp -implicitDefEqProofs only [List.getElem?_cons_zero, List.getElem?_cons_succ, awp_seq, awp_reg, seqQ_n, WW_one, WW_nil, none_md, none_fz, frz_nil, ownOp, wc_app, wcont_s, wcont_n, upd_app, ev_tmp, x_move, x_assign, x_alloc, x_load, x_store, x_extract, ext_tup, holdsO_some, holdsO_ofO, holdsO_ofS, ↓reduceIte, Nat.reduceEqDiff, Option.getD_some, Bool.not_false, enP, Option.getD_none, al28', al47, s1, s2]
    generalize ((H ++ [ABlk.live 4 [rowZ]] ++ [ABlk.live 1 [nilR]]).set H.length (ABlk.live 4 [encV (emV m)])).set (H ++ [ABlk.live 4 [rowZ]]).length (ABlk.live 1 [encT (emTr m)]) = H1 at L2 g7 ⊢
    rw [hem] at g7
    generalize H.length = b7 at g7 ⊢
    clear s1 s2 L hx5
    simp -implicitDefEqProofs only [WW_one, none_md, none_fz, frz_nil, ownOp, wc_app, wcont_s, upd_app, ev_tmp, ev_const, ev_func, av_int, x_load, x_indexAddr, X1_call, callA_fn, holdsO_ofO, List.map_cons, List.map_nil, List.append_nil, ↓reduceIte, Nat.reduceEqDiff, Option.getD_some, Bool.not_false, enP, f3, f2, ldM L2.gm, ia0, ia1, L2.l0, L2.l1]
    refine (Merge_prog G hG hT m a b hm ha hb _).use ?_
    have L3 := L2.app (ABlk.live 4 [encV (allR m [a, b])])
    have g10 := top_get H1 (ABlk.live 4 [encV (allR m [a, b])])
    have g7' := below_get (x := .live 4 [encV (allR m [a, b])]) g7
    simp -implicitDefEqProofs only [List.getElem?_cons_zero, List.getElem?_cons_succ, awp_seq, awp_reg, seqQ_n, WW_one, WW_nil, none_md, none_fz, frz_nil, ownOp, wc_app, wcont_s, wcont_n, upd_app, ev_tmp, x_move, x_assign, x_alloc, x_load, x_store, x_extract, ext_tup, holdsO_some, holdsO_ofO, holdsO_ofS, ↓reduceIte, Nat.reduceEqDiff, Option.getD_some, Bool.not_false, enP, Option.getD_none, zab, al28', stVtop]
    generalize H1 ++ [ABlk.live 4 [encV (allR m [a, b])]] = H2 at L3 g10 g7' ⊢
    generalize H1.length = b10 at g10 ⊢
    clear L2 g7
    simp -implicitDefEqProofs only [WW_one, none_md, none_fz, frz_nil, ownOp, wc_app, wcont_s, upd_app, ev_tmp, ev_const, ev_func, av_int, x_load, x_indexAddr, X1_call, callA_fn, holdsO_ofO, List.map_cons, List.map_nil, List.append_nil, ↓reduceIte, Nat.reduceEqDiff, Option.getD_some, Bool.not_false, enP, f3, f2, ldM L3.gm, ia0, ia1, L3.l0, L3.l1]
    refine (Merge_prog G hG hT m b a hm hb ha _).use ?_
    have L4 := L3.app (ABlk.live 4 [encV (allR m [b, a])])
    have g12 := top_get H2 (ABlk.live 4 [encV (allR m [b, a])])
    have g7 := below_get (x := .live 4 [encV (allR m [b, a])]) g7'
    have g10' := below_get (x := .live 4 [encV (allR m [b, a])]) g10
    simp -implicitDefEqProofs only [List.getElem?_cons_zero, List.getElem?_cons_succ, awp_seq, awp_reg, seqQ_n, WW_one, WW_nil, none_md, none_fz, frz_nil, ownOp, wc_app, wcont_s, wcont_n, upd_app, ev_tmp, x_move, x_assign, x_alloc, x_load, x_store, x_extract, ext_tup, holdsO_some, holdsO_ofO, holdsO_ofS, ↓reduceIte, Nat.reduceEqDiff, Option.getD_some, Bool.not_false, enP, Option.getD_none, zba, al28', stVtop]
    generalize H2 ++ [ABlk.live 4 [encV (allR m [b, a])]] = H3 at L4 g12 g10' g7 ⊢
    generalize H2.length = b12 at g12 ⊢
    clear L3 g7' g10
    simp -implicitDefEqProofs only [WW_one, none_md, none_fz, frz_nil, ownOp, wc_app, wcont_s, upd_app, ev_tmp, ev_const, ev_func, av_int, x_load, x_indexAddr, X1_call, callA_fn, holdsO_ofO, List.map_cons, List.map_nil, List.append_nil, ↓reduceIte, Nat.reduceEqDiff, Option.getD_some, Bool.not_false, enP, f3, f2, ldM L4.gm, ia1, ia2, L4.l1, L4.l2]
    refine (Merge_prog G hG hT m b c hm hb hc _).use ?_
    have L5 := L4.app (ABlk.live 4 [encV (allR m [b, c])])
    have g14 := top_get H3 (ABlk.live 4 [encV (allR m [b, c])])
    have g7' := below_get (x := .live 4 [encV (allR m [b, c])]) g7
    have g10 := below_get (x := .live 4 [encV (allR m [b, c])]) g10'
    have g12' := below_get (x := .live 4 [encV (allR m [b, c])]) g12
    simp -implicitDefEqProofs only [List.getElem?_cons_zero, List.getElem?_cons_succ, awp_seq, awp_reg, seqQ_n, WW_one, WW_nil, WW_guardE, GX_some, gdstO, none_md, none_fz, frz_nil, ownOp, wc_app, wcont_s, wcont_n, upd_app, ev_tmp, ev_const, av_int, x_move, x_assign, x_alloc, x_store, x_bin, x_extract, ext_tup, holdsO_some, holdsO_ofO, holdsO_ofS, bin_neq, ↓reduceIte, Nat.reduceEqDiff, Option.getD_some, Bool.not_false, enP, Option.getD_none, zbc, al28', stVtop]
    generalize H3 ++ [ABlk.live 4 [encV (allR m [b, c])]] = H4 at L5 g14 g12' g10 g7' ⊢
    generalize H3.length = b14 at g14 ⊢
    clear L4 g7 g10' g12
    simp -implicitDefEqProofs only [WW_one, WW_guardE, GX_some, gdstO, G1_ff, none_md, none_fz, frz_nil, ownOp, wc_app, wcont_s, upd_app, ev_tmp, ev_const, ev_func, av_int, av_bool, x_move, x_pick, pick_f, x_load, x_bin, X1_call, callA_fn, holdsO_ofO, bin_neq, List.map_cons, List.map_nil, List.append_nil, ↓reduceIte, Nat.reduceEqDiff, Option.getD_some, Bool.not_true, Bool.not_false, enP, bne, z0, ldV g10, ldV g12']
    refine (same_V G _ _ _ oab oba).use ?_
    simp -implicitDefEqProofs only [WW_one, WW_guardE, GX_some, gdstO, G1_ff, none_md, none_fz, frz_nil, ownOp, wc_app, wcont_s, upd_app, ev_tmp, ev_const, ev_func, av_bool, x_move, x_pick, pick_f, x_load, x_un, X1_call, callA_fn, holdsO_ofO, un_not, List.map_cons, List.map_nil, List.append_nil, ↓reduceIte, Nat.reduceEqDiff, Option.getD_some, Bool.not_true, Bool.not_false, enP, e1, f2, ldM L5.gm, ldV g10]
    refine (fits_ref G m _ hm oab _).use ?_
    simp -implicitDefEqProofs only [awp_seq, awp_reg, awp_skip, awp_cond, seqQ_n, cond_f, WW_one, WW_nil, WW_guardE, GX_some, gdstO, G1_ff, none_md, none_fz, frz_nil, ownOp, wc_app, wcont_s, upd_app, ev_tmp, ev_const, ev_func, av_int, av_bool, x_pick, pick_f, x_load, x_un, x_indexAddr, X1_call, callA_fn, holdsO_ofO, un_not, List.map_cons, List.map_nil, List.append_nil, ↓reduceIte, Nat.reduceEqDiff, Option.getD_some, Bool.not_true, Bool.not_false, enP, fab, f2, ldM L5.gm, ldV g10, f3, ia2, L5.l2]
    refine (Merge_prog G hG hT m _ c hm oab hc _).use ?_
    have L6 := L5.app (ABlk.live 4 [encV (allR m [allR m [a, b], c])])
    have g16 := top_get H4 (ABlk.live 4 [encV (allR m [allR m [a, b], c])])
    have g7 := below_get (x := .live 4 [encV (allR m [allR m [a, b], c])]) g7'
    have g14' := below_get (x := .live 4 [encV (allR m [allR m [a, b], c])]) g14
    simp -implicitDefEqProofs only [List.getElem?_cons_zero, List.getElem?_cons_succ, awp_seq, awp_reg, seqQ_n, WW_one, WW_nil, none_md, none_fz, frz_nil, ownOp, wc_app, wcont_s, wcont_n, upd_app, ev_tmp, x_move, x_assign, x_alloc, x_load, x_store, x_extract, ext_tup, holdsO_some, holdsO_ofO, holdsO_ofS, ↓reduceIte, Nat.reduceEqDiff, Option.getD_some, Bool.not_false, enP, Option.getD_none, zl, al28', stVtop]
    generalize H4 ++ [ABlk.live 4 [encV (allR m [allR m [a, b], c])]] = H5 at L6 g16 g14' g7 ⊢
    generalize H4.length = b16 at g16 ⊢
    clear L5 g7' g10 g12' g14
    simp -implicitDefEqProofs only [WW_one, none_md, none_fz, frz_nil, ownOp, wc_app, wcont_s, upd_app, ev_tmp, ev_const, ev_func, av_int, x_load, x_indexAddr, X1_call, callA_fn, holdsO_ofO, List.map_cons, List.map_nil, List.append_nil, ↓reduceIte, Nat.reduceEqDiff, Option.getD_some, Bool.not_false, enP, f3, f2, ldM L6.gm, ia0, L6.l0, ldV g14']
    refine (Merge_prog G hG hT m a _ hm ha obc _).use ?_
    have L7 := L6.app (ABlk.live 4 [encV (allR m [a, allR m [b, c]])])
    have g17 := top_get H5 (ABlk.live 4 [encV (allR m [a, allR m [b, c]])])
    have g7' := below_get (x := .live 4 [encV (allR m [a, allR m [b, c]])]) g7
    have g16' := below_get (x := .live 4 [encV (allR m [a, allR m [b, c]])]) g16
    simp -implicitDefEqProofs only [List.getElem?_cons_zero, List.getElem?_cons_succ, awp_seq, awp_reg, seqQ_n, WW_one, WW_nil, none_md, none_fz, frz_nil, ownOp, wc_app, wcont_s, wcont_n, upd_app, ev_tmp, x_move, x_assign, x_alloc, x_load, x_store, x_extract, ext_tup, holdsO_some, holdsO_ofO, holdsO_ofS, ↓reduceIte, Nat.reduceEqDiff, Option.getD_some, Bool.not_false, enP, Option.getD_none, zr, al28', stVtop]
    generalize H5 ++ [ABlk.live 4 [encV (allR m [a, allR m [b, c]])]] = H6 at L7 g17 g16' g7' ⊢
    generalize H5.length = b17 at g17 ⊢
    clear L6 g7 g14' g16
    simp -implicitDefEqProofs only [WW_one, none_md, none_fz, frz_nil, ownOp, wc_app, wcont_s, upd_app, ev_tmp, ev_const, ev_func, av_int, x_load, x_indexAddr, X1_call, callA_fn, holdsO_ofO, List.map_cons, List.map_nil, List.append_nil, ↓reduceIte, Nat.reduceEqDiff, Option.getD_some, Bool.not_false, enP, f3, f2, ldM L7.gm, ia0, L7.l0, ldV g7']
    refine (Merge_prog G hG hT m _ a hm hE ha _).use ?_
    have L8 := L7.app (ABlk.live 4 [encV (allR m [emptyV m, a])])
    have g18 := top_get H6 (ABlk.live 4 [encV (allR m [emptyV m, a])])
    have g17' := below_get (x := .live 4 [encV (allR m [emptyV m, a])]) g17
    have g16 := below_get (x := .live 4 [encV (allR m [emptyV m, a])]) g16'
    simp -implicitDefEqProofs only [List.getElem?_cons_zero, List.getElem?_cons_succ, awp_seq, awp_reg, seqQ_n, WW_one, WW_nil, none_md, none_fz, frz_nil, ownOp, wc_app, wcont_s, wcont_n, upd_app, ev_tmp, x_move, x_assign, x_alloc, x_load, x_store, x_extract, ext_tup, holdsO_some, holdsO_ofO, holdsO_ofS, ↓reduceIte, Nat.reduceEqDiff, Option.getD_some, Bool.not_false, enP, Option.getD_none, zs, al28', stVtop]
    generalize H6 ++ [ABlk.live 4 [encV (allR m [emptyV m, a])]] = H7 at L8 g18 g17' g16 ⊢
    generalize H6.length = b18 at g18 ⊢
    clear L7 g7' g16' g17
    simp -implicitDefEqProofs only [evp_nil, evp_cons, WW_one, none_md, none_fz, frz_nil, ownOp, wc_app, wcont_s, upd_app, ev_tmp, ev_const, ev_func, av_int, x_buildSlice, x_load, x_indexAddr, X1_call, callA_fn, holdsO_some, holdsO_ofO, List.map_cons, List.map_nil, List.append_nil, ↓reduceIte, Nat.reduceEqDiff, Option.getD_some, Bool.not_false, enP, f3, f2, ldM L8.gm, ia0, ia1, ia2, L8.l0, L8.l1, L8.l2, bs37c]
    refine (All_prog G hG hT m [c, a, b] .full hm o3 (by simp) _).use ?_
    have L9 := L8.app (ABlk.live 4 [encV (allR m [c, a, b])])
    have g19 := top_get H7 (ABlk.live 4 [encV (allR m [c, a, b])])
    have g18' := below_get (x := .live 4 [encV (allR m [c, a, b])]) g18
    have g17 := below_get (x := .live 4 [encV (allR m [c, a, b])]) g17'
    have g16' := below_get (x := .live 4 [encV (allR m [c, a, b])]) g16
    simp -implicitDefEqProofs only [List.getElem?_cons_zero, List.getElem?_cons_succ, awp_seq, awp_reg, seqQ_n, WW_one, WW_nil, WW_guardE, GX_some, gdstO, none_md, none_fz, frz_nil, ownOp, wc_app, wcont_s, wcont_n, upd_app, ev_tmp, ev_const, av_int, x_move, x_assign, x_alloc, x_store, x_bin, x_extract, ext_tup, holdsO_some, holdsO_ofO, holdsO_ofS, bin_eql, ↓reduceIte, Nat.reduceEqDiff, Option.getD_some, Bool.not_false, enP, Option.getD_none, za, al28', stVtop]
    generalize H7 ++ [ABlk.live 4 [encV (allR m [c, a, b])]] = H8 at L9 g19 g18' g17 g16' ⊢
    generalize H7.length = b19 at g19 ⊢
    clear L8 g18 g17' g16
    simp -implicitDefEqProofs only [WW_one, WW_guardE, GX_some, gdstO, G1_tt, none_md, none_fz, frz_nil, ownOp, wc_app, wcont_s, upd_app, ev_tmp, ev_const, ev_func, av_int, av_bool, x_move, x_pick, pick_t, x_load, x_bin, X1_call, callA_fn, holdsO_ofO, bin_eql, List.map_cons, List.map_nil, List.append_nil, ↓reduceIte, Nat.reduceEqDiff, Option.getD_some, Bool.not_false, enP, z0, ldV g16', ldV g17]
    refine (same_V G _ _ _ ol or').use ?_
    simp -implicitDefEqProofs only [WW_one, WW_guardE, GX_some, gdstO, G1_tt, none_md, none_fz, frz_nil, ownOp, wc_app, wcont_s, upd_app, ev_tmp, ev_const, ev_func, av_int, av_bool, x_move, x_pick, pick_t, x_load, x_indexAddr, X1_call, callA_fn, holdsO_ofO, List.map_cons, List.map_nil, List.append_nil, ↓reduceIte, Nat.reduceEqDiff, Option.getD_some, Bool.not_false, enP, e2, ldV g18', f3, ia0, L9.l0]
    refine (same_V G _ _ _ os ha).use ?_
    simp -implicitDefEqProofs only [WW_one, WW_guardE, GX_some, gdstO, G1_tt, none_md, none_fz, frz_nil, ownOp, wc_app, wcont_s, upd_app, ev_tmp, ev_const, ev_func, av_bool, x_move, x_pick, pick_t, x_load, X1_call, callA_fn, holdsO_ofO, List.map_cons, List.map_nil, List.append_nil, ↓reduceIte, Nat.reduceEqDiff, Option.getD_some, Bool.not_false, enP, e3, ldV g19, ldV g16']
    refine (same_V G _ _ _ oa ol).use ?_
    simp -implicitDefEqProofs only [WW_one, WW_guardE, GX_some, gdstO, G1_tt, none_md, none_fz, frz_nil, ownOp, wc_app, wcont_s, upd_app, ev_tmp, ev_const, ev_func, av_bool, x_move, x_pick, pick_t, X1_call, callA_fn, List.map_nil, List.append_nil, ↓reduceIte, Nat.reduceEqDiff, Option.getD_some, Bool.not_false, e4]
    refine (awake G hG hT _).use ?_
    simp -implicitDefEqProofs only [awp_ret, seqQ_n, end_r, WW_one, WW_nil, none_md, none_fz, frz_nil, ownOp, wc_app, wcont_s, upd_app, ev_tmp, ev_const, av_bool, x_assign, x_pick, pick_t, ↓reduceIte, Nat.reduceEqDiff, Option.getD_some, Bool.not_false]
    exact ⟨trivial, L9.hx⟩
  · rintro F H ⟨f4, hx⟩
    simp -implicitDefEqProofs only [seqQ_r, blk_r, end_r, f4]
    exact ⟨trivial, hx⟩
end Go.Proofs.YtocilianjfhifaaGreatDoor.Cov
/- Readers of lists and arrays of coverages; no condition. -/
namespace Go.Proofs.YtocilianjfhifaaGreatDoor.Cov
open Go Go.Proofs Go.Proofs.YtocilianjfhifaaGreatDoor.Sm Go.Proofs.YtocilianjfhifaaGreatDoor.Bins Go.RowKit

structure Vs where
  m : SM
  l : List Cvr
def okVs (x : Vs) (b : Nat) : Prop := okL okV x.l b
theorem rdVs : Rd Tryz.prog 37 (fun z : Vs => [.sl z.m 4 (z.l.map encV)]) okVs := by
  intro n
  cases n with
  | zero => exact RdAt.zero
  | succ n => exact RdAt.map (fun x : SM × List Cvr => (⟨x.1, x.2⟩ : Vs)) (rd_slice Tryz.underlying37 cl28 (by decide) encV_len (rdV n)) (fun _ => rfl) (fun x b h => okL_up h)
theorem vsOk_of {x : Vs} {b : Nat} (h : okVs x b) (hb : b ≤ 1048576) : (∀ v ∈ x.l, CvOk v) ∧ x.l.length ≤ 1048576 := by
  refine ⟨fun v hv => ?_, Nat.le_trans (okL.length h) hb⟩
  obtain ⟨b1, h1, h2⟩ := okL.each h v hv
  exact cvOk_of h2 (by omega)
theorem rdMap' {P : Program} {n : Nat} {t : TypeId} {α β : Type} {enc : α → List AV} {ok : α → Nat → Prop} {enc' : β → List AV} {ok' : β → Nat → Prop} (f : α → β) (h : RdAt P n t enc ok)
    (he : ∀ x b, ok x b → enc' (f x) = enc x) (hok : ∀ x b, ok x b → ok' (f x) b) : RdAt P n t enc' ok' := by
  intro H ench w cs d ps ht
  obtain ⟨x, h1, h2⟩ := h H ench w cs d ps ht
  exact ⟨f x, hok x _ h1, by rw [he x _ h1]; exact h2⟩
theorem cl44 : Tryz.prog.cellsOf 44 = 12 := by kernel_rfl
structure A3 where
  a : Cvr
  b : Cvr
  c : Cvr
def okA3 (x : A3) (b : Nat) : Prop := okL okV [x.a, x.b, x.c] b
def toA3 (l : List Cvr) : A3 := ⟨l.getD 0 zV, l.getD 1 zV, l.getD 2 zV⟩
theorem three_of {l : List Cvr} (h : l.length = 3) : l = [(toA3 l).a, (toA3 l).b, (toA3 l).c] := by
  match l, h with
  | [a, b, c], _ => rfl
theorem rdA3 : Rd Tryz.prog 44 (fun z : A3 => encA z.a z.b z.c) okA3 := by
  intro n
  cases n with
  | zero => exact RdAt.zero
  | succ n =>
    refine rdMap' toA3 (rd_array Tryz.underlying44 cl28 encV_len (rdV n)) (fun x b h => ?_) (fun x b h => ?_)
    · have := three_of h.1
      conv => rhs; rw [this]
      simp [encA]
    · have h2 := okL_up h.2
      rw [three_of h.1] at h2
      exact h2
theorem a3Ok_of {x : A3} {b : Nat} (h : okA3 x b) (hb : b ≤ 1048576) : CvOk x.a ∧ CvOk x.b ∧ CvOk x.c := by
  have : ∀ v ∈ [x.a, x.b, x.c], CvOk v := fun v hv => by
    obtain ⟨b1, h1, h2⟩ := okL.each h v hv
    exact cvOk_of h2 (by omega)
  exact ⟨this _ (by simp), this _ (by simp), this _ (by simp)⟩
end Go.Proofs.YtocilianjfhifaaGreatDoor.Cov
