/- Contracts of the name tests and of Valid, of the program and of the reference; no condition. -/
import Derived.Test.YtpdohkcjhphibaaDoorB5
set_option linter.unusedVariables false
set_option linter.unusedSimpArgs false
namespace Go.Proofs.YtpdohkcjhphibaaDoor.Bins
open Go Go.Proofs.YtpdohkcjhphibaaDoor.Sm

theorem isName_prog (G : Nat → AV) (hG : KwG G) (s : ByteArray) (h : Hp) (hl : s.size ≤ 1099511627776) : PCall (En G) 37 [.str s] h (.bool (isName s)) := by
  refine acalls_of (H := Hint.none) (enM G) Tryd.func37 rfl (by kernel_rfl) (by kernel_rfl) (Nat.le_of_ble_eq_true (by kernel_rfl)) ?_
  show awp _ _ _ _ _ (endQ _ [.tmp 2] _)
  simp -implicitDefEqProofs only [List.getElem?_cons_zero, List.getElem?_cons_succ, awp_seq, awp_reg, seqQ_n, WW_one, WW_nil, none_md, none_fz, frz_nil, ownOp, wc_app, wcont_s, upd_app, ev_tmp, ev_const, ev_func, av_bool, x_move, x_assign, X1_call, callA_fn, frameOf_zero, List.map_cons, List.map_nil, List.append_nil, ↓reduceIte, Nat.reduceEqDiff, Option.getD_some, Bool.not_false, enP]
  refine (word_prog G s h hl).use ?_
  simp -implicitDefEqProofs only [List.getElem?_cons_zero, List.getElem?_cons_succ, WW_one, WW_guardE, GX_some, gdstO, none_md, none_fz, frz_nil, ownOp, wc_app, wcont_s, upd_app, ev_tmp, x_move, ↓reduceIte, Option.getD_some, Bool.not_false]
  refine G1_of (fun ha => ?_) (fun ha => ?_)
  · simp -implicitDefEqProofs only [List.getElem?_cons_zero, List.getElem?_cons_succ, WW_one, WW_guardE, GX_some, gdstO, G1_tt, none_md, none_fz, frz_nil, ownOp, wc_app, wcont_s, upd_app, ev_tmp, ev_const, av_int, av_bool, x_move, x_pick, pick_t, x_bin, x_len, holdsO_ofO, bin_leq, frameOf_zero, ↓reduceIte, Nat.reduceEqDiff, Option.getD_some, Bool.not_false, enP, ln9, ha]
    refine G1_of (fun hb => ?_) (fun hb => ?_)
    · simp -implicitDefEqProofs only [List.getElem?_cons_zero, List.getElem?_cons_succ, WW_guardE, GX_some, gdstO, G1_tt, none_md, none_fz, frz_nil, ownOp, wc_app, wcont_s, upd_app, ev_tmp, ev_func, x_move, X1_call, callA_fn, frameOf_zero, List.map_cons, List.map_nil, List.append_nil, ↓reduceIte, Nat.reduceEqDiff, Option.getD_some, Bool.not_false, hb]
      refine (isKeyword_prog G hG s h).use ?_
      simp -implicitDefEqProofs only [List.getElem?_cons_zero, List.getElem?_cons_succ, awp_ret, seqQ_n, end_r, WW_one, WW_nil, WW_guardE, GX_some, gdstO, G1_tt, none_md, none_fz, frz_nil, ownOp, wc_app, wcont_s, upd_app, ev_tmp, ev_const, av_bool, x_assign, x_pick, pick_t, x_un, holdsO_ofO, un_not, ↓reduceIte, Nat.reduceEqDiff, Option.getD_some, Bool.not_false]
      refine ⟨?_, trivial⟩
      have : decide (s.size ≤ 16) = true := by simp at hb ⊢; omega
      unfold isName; rw [ha, this]; rfl
    · simp -implicitDefEqProofs only [List.getElem?_cons_zero, List.getElem?_cons_succ, awp_ret, seqQ_n, end_r, WW_one, WW_nil, WW_guardE, GX_some, gdstO, G1_tf, none_md, none_fz, frz_nil, ownOp, wc_app, wcont_s, upd_app, aput, ev_tmp, ev_const, av_bool, x_assign, x_pick, pick_f, ↓reduceIte, Nat.reduceEqDiff, Option.getD_some, Bool.not_false, hb]
      refine ⟨?_, trivial⟩
      have : decide (s.size ≤ 16) = false := by simp at hb ⊢; omega
      unfold isName; rw [ha, this]; rfl
  · simp -implicitDefEqProofs only [List.getElem?_cons_zero, List.getElem?_cons_succ, awp_ret, seqQ_n, end_r, WW_one, WW_nil, WW_guardE, GX_some, gdstO, G1_tf, none_md, none_fz, frz_nil, ownOp, wc_app, wcont_s, upd_app, aput, ev_tmp, ev_const, av_bool, x_move, x_assign, x_pick, pick_f, ↓reduceIte, Nat.reduceEqDiff, Option.getD_some, Bool.not_false, ha]
    exact ⟨by unfold isName; rw [ha]; rfl, trivial⟩

theorem ix9 (s : ByteArray) (k : Nat) (kk : IntKind) (hk : k < s.size) : aIndex Tryd.prog 9 (.str s) (.int kk (k : Int)) = some (.int .u8 (s[k]'hk).toNat) := by
  have hu : Tryd.prog.underlying 9 = some .string := by kernel_rfl
  have h0 : (0 : Int) ≤ (k : Int) := by omega
  have : s[k]? = some (s[k]'hk) := by simp [hk]
  simp [aIndex, hu, h0, this]

theorem isName_ref (G : Nat → AV) (s : ByteArray) (h : Hp) : PCall (En G) 40 [.str s] h (.bool (isName s)) := by
  refine acalls_of (H := Hint.none) (enM G) Tryd.func40 rfl (by kernel_rfl) (by kernel_rfl) (Nat.le_of_ble_eq_true (by kernel_rfl)) ?_
  show awp _ _ _ _ _ (endQ _ [.tmp 2] _)
  simp -implicitDefEqProofs only [List.getElem?_cons_zero, List.getElem?_cons_succ, awp_seq, awp_reg, seqQ_n, WW_one, WW_nil, WW_guardE, GX_some, gdstO, none_md, none_fz, frz_nil, ownOp, wc_app, wcont_s, upd_app, ev_tmp, ev_const, av_bool, av_str, x_move, x_assign, x_bin, holdsO_ofO, bin_seql, frameOf_zero, ↓reduceIte, Nat.reduceEqDiff, Option.getD_some, Bool.not_false, enP]
  refine G1_of (fun ha => ?_) (fun ha => ?_)
  · simp -implicitDefEqProofs only [List.getElem?_cons_zero, List.getElem?_cons_succ, awp_seq, awp_reg, awp_ret, awp_cond, seqQ_n, seqQ_r, end_r, cond_t, WW_one, WW_nil, WW_guardE, GX_some, gdstO, G1_ft, none_md, none_fz, frz_nil, ownOp, wc_app, wcont_s, upd_app, aput, ev_tmp, ev_const, av_bool, x_move, x_assign, x_pick, pick_t, ↓reduceIte, Nat.reduceEqDiff, Option.getD_some, Bool.not_false, ha]
    refine ⟨?_, trivial⟩
    have : s.data.toList = [] := by
      rw [ByteArray.toList_eq, ByteArray.toList_eq] at ha
      have := beq_iff_eq.1 ha
      exact this
    unfold isName wordB; rw [this]; rfl
  have hz : 0 < s.size := by
    rcases Nat.eq_zero_or_pos s.size with hz | hz
    · have : s = ⟨#[]⟩ := by
        obtain ⟨d⟩ := s
        have : d.size = 0 := hz
        rw [Array.eq_empty_of_size_eq_zero this]
      rw [this] at ha
      simp at ha
    · exact hz
  simp -implicitDefEqProofs only [List.getElem?_cons_zero, List.getElem?_cons_succ, WW_one, WW_guardE, GX_some, gdstO, G1_ff, none_md, none_fz, frz_nil, ownOp, wc_app, wcont_s, upd_app, ev_tmp, ev_const, av_int, av_bool, x_move, x_pick, pick_f, x_bin, x_len, holdsO_ofO, bin_gtr, frameOf_zero, ↓reduceIte, Nat.reduceEqDiff, Option.getD_some, Bool.not_false, enP, ln9, ha]
  refine G1_of (fun hb => ?_) (fun hb => ?_)
  · simp -implicitDefEqProofs only [List.getElem?_cons_zero, List.getElem?_cons_succ, awp_seq, awp_reg, awp_ret, awp_cond, seqQ_n, seqQ_r, end_r, cond_t, WW_one, WW_nil, WW_guardE, GX_some, gdstO, G1_ft, none_md, none_fz, frz_nil, ownOp, wc_app, wcont_s, upd_app, aput, ev_tmp, ev_const, av_bool, x_move, x_assign, x_pick, pick_t, ↓reduceIte, Nat.reduceEqDiff, Option.getD_some, Bool.not_false, hb]
    refine ⟨?_, trivial⟩
    have : decide (s.size ≤ 16) = false := by simp at hb ⊢; omega
    unfold isName; rw [this]; simp
  have h16 : decide (s.size ≤ 16) = true := by simp at hb ⊢; omega
  simp -implicitDefEqProofs only [List.getElem?_cons_zero, List.getElem?_cons_succ, WW_guardE, GX_some, gdstO, G1_ff, none_md, none_fz, frz_nil, ownOp, wc_app, wcont_s, upd_app, ev_tmp, ev_const, av_int, x_move, x_index, frameOf_zero, ↓reduceIte, Nat.reduceEqDiff, Option.getD_some, Bool.not_false, enP, hb]
  refine holdsO_of (v := .int .u8 (s[0]'hz).toNat) (h := h) (by rw [show (0 : Int) = ((0 : Nat) : Int) from rfl, ix9 s 0 .i64 hz]; rfl) ?_
  simp -implicitDefEqProofs only [List.getElem?_cons_zero, List.getElem?_cons_succ, WW_guardE, GX_some, gdstO, G1_ff, none_md, none_fz, frz_nil, ownOp, wc_app, wcont_s, upd_app, ev_tmp, ev_func, X1_call, callA_fn, List.map_cons, List.map_nil, List.append_nil, ↓reduceIte, Nat.reduceEqDiff, Option.getD_some, Bool.not_false]
  refine (small_ref G _ h).use ?_
  simp -implicitDefEqProofs only [List.getElem?_cons_zero, List.getElem?_cons_succ, WW_one, WW_guardE, GX_some, gdstO, G1_ff, none_md, none_fz, frz_nil, ownOp, wc_app, wcont_s, upd_app, ev_tmp, ev_const, av_bool, x_move, x_pick, pick_f, x_un, holdsO_ofO, un_not, ↓reduceIte, Nat.reduceEqDiff, Option.getD_some, Bool.not_false]
  refine G1_of (fun hc => ?_) (fun hc => ?_)
  · simp -implicitDefEqProofs only [List.getElem?_cons_zero, List.getElem?_cons_succ, awp_seq, awp_reg, awp_ret, awp_cond, seqQ_n, seqQ_r, end_r, cond_t, WW_one, WW_nil, WW_guardE, GX_some, gdstO, G1_ft, none_md, none_fz, frz_nil, ownOp, wc_app, wcont_s, upd_app, aput, ev_tmp, ev_const, av_bool, x_assign, x_pick, pick_t, ↓reduceIte, Nat.reduceEqDiff, Option.getD_some, Bool.not_false, hc]
    refine ⟨?_, trivial⟩
    unfold isName; rw [wordB_fail0 hz (by simpa using hc)]; rfl
  simp -implicitDefEqProofs only [List.getElem?_cons_zero, List.getElem?_cons_succ, WW_guardE, GX_some, gdstO, G1_ff, none_md, none_fz, frz_nil, ownOp, wc_app, wcont_s, upd_app, ev_tmp, ev_func, x_move, X1_call, callA_fn, frameOf_zero, List.map_cons, List.map_nil, List.append_nil, ↓reduceIte, Nat.reduceEqDiff, Option.getD_some, Bool.not_false, hc]
  refine (isKeyword_ref G s h).use ?_
  simp -implicitDefEqProofs only [List.getElem?_cons_zero, List.getElem?_cons_succ, awp_cond, seqQ_n, WW_one, WW_nil, none_md, none_fz, frz_nil, ownOp, wc_app, wcont_s, upd_app, ev_tmp, ev_const, av_bool, x_pick, pick_f, ↓reduceIte, Nat.reduceEqDiff, Option.getD_some, Bool.not_false]
  refine cond_of (fun hd => ?_) (fun hd => ?_)
  · simp -implicitDefEqProofs only [List.getElem?_cons_zero, List.getElem?_cons_succ, awp_seq, awp_reg, awp_ret, seqQ_n, seqQ_r, end_r, WW_one, WW_nil, none_md, none_fz, frz_nil, ownOp, wc_app, wcont_s, upd_app, ev_const, av_bool, x_assign, ↓reduceIte, Option.getD_some, Bool.not_false]
    refine ⟨?_, trivial⟩
    unfold isName; rw [hd]; simp
  simp -implicitDefEqProofs only [List.getElem?_cons_zero, List.getElem?_cons_succ, awp_seq, awp_block, awp_reg, awp_skip, seqQ_n, WW_one, WW_nil, none_md, none_fz, frz_nil, ownOp, wc_app, wcont_s, ev_const, av_int, x_assign, Option.getD_some, Bool.not_false]
  have hlow : lowB (s[0]'hz).toNat = true := by simpa using hc
  refine awp_loop (fun n F H => ∃ k, n + k = s.size ∧ F 0 = .str s ∧ F 3 = .int .i64 (k : Nat) ∧ H = h ∧ (∀ i (hi : i < s.size), i < k → folB (s[i]'hi).toNat = true)) s.size ⟨0, by simp, by simp -implicitDefEqProofs only [List.getElem?_cons_zero, List.getElem?_cons_succ, upd_app, frameOf_zero, ↓reduceIte, Nat.reduceEqDiff], by simp -implicitDefEqProofs only [List.getElem?_cons_zero, List.getElem?_cons_succ, upd_app, ↓reduceIte]; rfl, rfl, fun _ _ h => absurd h (by omega)⟩ ?_
  rintro n F H ⟨k, hk, f0, f3, rfl, hall⟩
  simp -implicitDefEqProofs only [List.getElem?_cons_zero, List.getElem?_cons_succ, awp_seq, awp_reg, awp_cond, seqQ_n, WW_one, WW_nil, none_md, none_fz, frz_nil, ownOp, wc_app, wcont_s, upd_app, ev_tmp, x_move, x_bin, x_len, holdsO_ofO, bin_lss, ↓reduceIte, Nat.reduceEqDiff, Option.getD_some, Bool.not_false, enP, ln9, f0, f3]
  refine cond_of (fun he => ?_) (fun he => ?_)
  · have hk' : k < s.size := by simpa using he
    simp -implicitDefEqProofs only [List.getElem?_cons_zero, List.getElem?_cons_succ, awp_seq, awp_block, awp_reg, awp_skip, seqQ_n, WW_one, none_md, none_fz, frz_nil, ownOp, wc_app, wcont_s, upd_app, ev_tmp, ev_func, x_move, x_index, X1_call, callA_fn, holdsO_ofO, List.map_cons, List.map_nil, List.append_nil, ↓reduceIte, Nat.reduceEqDiff, Option.getD_some, Bool.not_false, enP, f0, f3, ix9 s k .i64 hk']
    refine (inner_ref G _ _).use ?_
    simp -implicitDefEqProofs only [List.getElem?_cons_zero, List.getElem?_cons_succ, awp_cond, seqQ_n, WW_one, WW_nil, none_md, none_fz, frz_nil, ownOp, wc_app, wcont_s, upd_app, ev_tmp, x_un, holdsO_ofO, un_not, ↓reduceIte, Option.getD_some, Bool.not_false]
    refine cond_of (fun hf => ?_) (fun hf => ?_)
    · simp -implicitDefEqProofs only [List.getElem?_cons_zero, List.getElem?_cons_succ, awp_seq, awp_reg, awp_ret, seqQ_n, seqQ_r, blk_r, rnd_r, end_r, WW_one, WW_nil, none_md, none_fz, frz_nil, ownOp, wc_app, wcont_s, upd_app, ev_const, av_bool, x_assign, ↓reduceIte, Option.getD_some, Bool.not_false]
      refine ⟨?_, trivial⟩
      unfold isName; rw [wordB_fail hk' (by simpa using hf)]; rfl
    · simp -implicitDefEqProofs only [List.getElem?_cons_zero, List.getElem?_cons_succ, awp_reg, awp_skip, seqQ_n, blk_n, rnd_n, WW_one, WW_nil, none_md, none_fz, frz_nil, ownOp, wc_app, wcont_s, upd_app, ev_tmp, ev_const, av_int, x_move, x_assign, x_bin, holdsO_ofO, bin_add, ↓reduceIte, Nat.reduceEqDiff, Option.getD_some, Bool.not_false, enP, f3, wrap_succ (show k < 9223372036854775807 by simp at h16; omega)]
      refine ⟨n - 1, by omega, k + 1, by omega, f0, rfl, trivial, fun i hi hik => ?_⟩
      rcases Nat.lt_or_ge i k with h' | h'
      · exact hall i hi h'
      · have : i = k := by omega
        subst this; simpa using hf
  · have hk' : ¬ k < s.size := by simpa using he
    simp -implicitDefEqProofs only [List.getElem?_cons_zero, List.getElem?_cons_succ, awp_seq, awp_reg, awp_ret, awp_exit, seqQ_n, seqQ_e, blk_e, rnd_e, end_r, WW_one, WW_nil, none_md, none_fz, frz_nil, ownOp, wc_app, wcont_s, upd_app, ev_const, av_bool, x_assign, ↓reduceIte, Option.getD_some, Bool.not_false]
    refine ⟨?_, trivial⟩
    unfold isName
    rw [wordB_ok hz hlow (fun i hi => hall i hi (by omega)), h16, hd]; rfl

/-- what the reference says of the shape -/
def refShape (b : Bin) : Bool :=
  decide (b.kind < 0) || decide (b.kind > 2) || (decide ((b.ranges.l.length : Int) > 0) == decide ((b.steps.length : Int) > 0)) || (b.kind != 0 && decide ((b.steps.length : Int) > 0)) || ((b.steps.length : Int) == 1) || decide ((b.steps.length : Int) > 8)
def validE (b : Bin) : Int :=
  if isName b.name then if refShape b then 1 else if b.steps.any (fun l => decide (l.l.length = 0)) then 1 else
    if (sets b).any (fun l => decide (l.l.length > 64)) then 2 else if (sets b).any (fun l => l.l.any bad) then 1 else 0
  else 7

/-- what the program says of the shape -/
def shape (b : Bin) : Bool :=
  if (b.kind != 0 && b.kind != 1 && b.kind != 2) then false else if ((b.steps.length : Int) == 0) then decide ((b.ranges.l.length : Int) > 0) else
    if (decide ((b.ranges.l.length : Int) > 0) || b.kind != 0 || decide ((b.steps.length : Int) < 2) || decide ((b.steps.length : Int) > 8)) then false else !(b.steps.any (fun l => decide (l.l.length = 0)))

theorem shape_bool : ∀ (n p z o t r s0 s1 s8 E : Bool), ((n || p || z || o || t) && !(n && p) && !(n && z) && !(n && o) && !(n && t) && !(p && z) && !(p && o) && !(p && t) && !(z && o) && !(z && t) && !(o && t) && !(s0 && s1) && !(s0 && s8) && !(s1 && s8) && !(s0 && E)) = true →
    (if (!z && !o && !t) then false else if s0 then r else if (r || !z || (s0 || s1) || s8) then false else !E) = (!(n || p || (r == !s0) || (!z && !s0) || s1 || s8) && !E) := by decide +kernel
theorem shape_num (k r s : Int) (E : Bool) (hs : 0 ≤ s) (hE : s = 0 → E = false) :
    (if (k != 0 && k != 1 && k != 2) then false else if (s == 0) then decide (r > 0) else if (decide (r > 0) || k != 0 || decide (s < 2) || decide (s > 8)) then false else !E) =
    (!(decide (k < 0) || decide (k > 2) || (decide (r > 0) == decide (s > 0)) || (k != 0 && decide (s > 0)) || (s == 1) || decide (s > 8)) && !E) := by
  have h1 : decide (s > 0) = !(s == 0) := by rw [Bool.eq_iff_iff]; simp; omega
  have h2 : decide (s < 2) = ((s == 0) || (s == 1)) := by rw [Bool.eq_iff_iff]; simp; omega
  rw [h1, h2]
  have key := shape_bool (decide (k < 0)) (decide (k > 2)) (k == 0) (k == 1) (k == 2) (decide (r > 0)) (s == 0) (s == 1) (decide (s > 8)) E ?_
  · exact key
  · have a1 : (decide (k < 0) || decide (k > 2) || (k == 0) || (k == 1) || (k == 2)) = true := by simp; omega
    have no : ∀ (p q : Prop) [Decidable p] [Decidable q], ¬ (p ∧ q) → (!(decide p && decide q)) = true := by
      intro p q _ _ h; by_cases hp : p <;> by_cases hq : q <;> simp_all
    have e0 : (s == 0 && E) = false := by
      by_cases hz : s = 0
      · rw [hE hz]; simp
      · simp [hz]
    have b0 : (k == 0) = decide (k = 0) := rfl
    have b1 : (k == 1) = decide (k = 1) := rfl
    have b2 : (k == 2) = decide (k = 2) := rfl
    have c0 : (s == 0) = decide (s = 0) := rfl
    have c1 : (s == 1) = decide (s = 1) := rfl
    rw [e0]
    rw [b0, b1, b2] at a1 ⊢
    rw [c0, c1, a1, no _ _ (show ¬ (k < 0 ∧ k > 2) by omega), no _ _ (show ¬ (k < 0 ∧ k = 0) by omega), no _ _ (show ¬ (k < 0 ∧ k = 1) by omega), no _ _ (show ¬ (k < 0 ∧ k = 2) by omega),
      no _ _ (show ¬ (k > 2 ∧ k = 0) by omega), no _ _ (show ¬ (k > 2 ∧ k = 1) by omega), no _ _ (show ¬ (k > 2 ∧ k = 2) by omega), no _ _ (show ¬ (k = 0 ∧ k = 1) by omega), no _ _ (show ¬ (k = 0 ∧ k = 2) by omega), no _ _ (show ¬ (k = 1 ∧ k = 2) by omega),
      no _ _ (show ¬ (s = 0 ∧ s = 1) by omega), no _ _ (show ¬ (s = 0 ∧ s > 8) by omega), no _ _ (show ¬ (s = 1 ∧ s > 8) by omega)]
    rfl
theorem shape_eq (b : Bin) : shape b = (!refShape b && !(b.steps.any (fun l => decide (l.l.length = 0)))) :=
  shape_num b.kind b.ranges.l.length b.steps.length _ (by omega) (fun h => by
    have : b.steps = [] := List.eq_nil_of_length_eq_zero (by omega)
    rw [this]; rfl)

theorem shape_prog (G : Nat → AV) (b : Bin) (h : Hp) (hl : b.steps.length ≤ 1099511627776) : PCall (En G) 38 [.agg (encB b)] h (.bool (shape b)) := by
  refine ACalls.pure0 rfl ?_
  refine acalls_of (H := Hint.none) (enM G) Tryd.func38 rfl (by kernel_rfl) (by kernel_rfl) (Nat.le_of_ble_eq_true (by kernel_rfl)) ?_
  show awp _ _ _ _ _ (endQ _ [.tmp 2] _)
  simp -implicitDefEqProofs only [List.getElem?_cons_zero, List.getElem?_cons_succ, awp_seq, awp_block, awp_reg, seqQ_n, WW_one, WW_nil, WW_guardE, GX_some, gdstO, none_md, none_fz, frz_nil, ownOp, wc_app, wcont_s, upd_app, ev_tmp, ev_const, av_int, av_bool, x_move, x_assign, x_box, x_load, x_bin, x_fieldAddr, x_len, holdsO_some, holdsO_ofO, bin_neq, frameOf_zero, ↓reduceIte, Nat.reduceEqDiff, Nat.zero_add, Option.getD_some, Bool.not_false, enP, ln27, fa29_1, fa29_3, bxB, load_last ag27, load_last ag22, load_last ag3, encB1, encB3, List.length_map]
  refine G1_mid (fun F H => F 7 = .bool (b.kind != 0 && b.kind != 1 && b.kind != 2) ∧ F 1 = .ptr h.length 0 0 ∧ F 3 = .int .i64 b.steps.length ∧ H = h ++ [.live 4 [encB b]]) ?_ ?_
  · refine G1_of (fun ha => ?_) (fun ha => ?_)
    · simp -implicitDefEqProofs only [List.getElem?_cons_zero, List.getElem?_cons_succ, WW_one, WW_guardE, GX_some, gdstO, G1_tt, none_md, none_fz, frz_nil, ownOp, wc_app, wcont_s, upd_app, ev_tmp, ev_const, av_int, av_bool, x_move, x_pick, pick_t, x_load, x_bin, x_fieldAddr, holdsO_ofO, bin_neq, ↓reduceIte, Nat.reduceEqDiff, Nat.zero_add, Option.getD_some, Bool.not_false, enP, fa29_1, ha, load_last ag3, encB1]
      refine G1_of (fun hb => ?_) (fun hb => ?_)
      · simp -implicitDefEqProofs only [List.getElem?_cons_zero, List.getElem?_cons_succ, WW_one, WW_nil, WW_guardE, GX_some, gdstO, G1_tt, none_md, none_fz, frz_nil, ownOp, wc_app, wcont_s, upd_app, ev_tmp, ev_const, av_int, av_bool, x_assign, x_pick, pick_t, x_load, x_bin, x_fieldAddr, holdsO_ofO, bin_neq, ↓reduceIte, Nat.reduceEqDiff, Nat.zero_add, Option.getD_some, Bool.not_false, enP, fa29_1, hb, load_last ag3, encB1]
        exact ⟨rfl, trivial, trivial, trivial⟩
      · simp -implicitDefEqProofs only [List.getElem?_cons_zero, List.getElem?_cons_succ, WW_one, WW_nil, WW_guardE, GX_some, gdstO, G1_tf, none_md, none_fz, frz_nil, ownOp, wc_app, wcont_s, upd_app, aput, ev_tmp, ev_const, av_bool, x_assign, x_pick, pick_f, ↓reduceIte, Nat.reduceEqDiff, Option.getD_some, Bool.not_false, hb]
        exact ⟨rfl, trivial, trivial, trivial⟩
    · simp -implicitDefEqProofs only [List.getElem?_cons_zero, List.getElem?_cons_succ, WW_one, WW_nil, WW_guardE, GX_some, gdstO, G1_tf, none_md, none_fz, frz_nil, ownOp, wc_app, wcont_s, upd_app, aput, ev_tmp, ev_const, av_bool, x_move, x_assign, x_pick, pick_f, ↓reduceIte, Nat.reduceEqDiff, Option.getD_some, Bool.not_false, ha]
      exact ⟨rfl, trivial, trivial, trivial⟩
  rintro F H ⟨f7, f1, f3, rfl⟩
  simp -implicitDefEqProofs only [List.getElem?_cons_zero, List.getElem?_cons_succ, awp_cond, seqQ_n, ev_tmp, f7]
  refine cond_of (fun hk => ?_) (fun hk => ?_)
  · simp -implicitDefEqProofs only [List.getElem?_cons_zero, List.getElem?_cons_succ, awp_seq, awp_reg, awp_ret, seqQ_n, seqQ_r, blk_r, end_r, WW_one, WW_nil, none_md, none_fz, frz_nil, ownOp, wc_app, wcont_s, upd_app, ev_const, av_bool, x_assign, ↓reduceIte, Option.getD_some, Bool.not_false]
    exact ⟨by unfold shape; rw [if_pos hk], _, rfl⟩
  have hk' : ¬ (b.kind != 0 && b.kind != 1 && b.kind != 2) = true := by rw [hk]; simp
  simp -implicitDefEqProofs only [List.getElem?_cons_zero, List.getElem?_cons_succ, awp_seq, awp_reg, awp_cond, seqQ_n, WW_one, WW_nil, none_md, none_fz, frz_nil, ownOp, wc_app, wcont_s, upd_app, ev_tmp, ev_const, av_int, x_move, x_assign, x_bin, holdsO_ofO, bin_eql, ↓reduceIte, Option.getD_some, Bool.not_false, enP, f3]
  refine cond_of (fun hs => ?_) (fun hs => ?_)
  · simp -implicitDefEqProofs only [List.getElem?_cons_zero, List.getElem?_cons_succ, awp_seq, awp_reg, awp_ret, seqQ_n, seqQ_r, blk_r, end_r, WW_one, WW_nil, none_md, none_fz, frz_nil, ownOp, wc_app, wcont_s, upd_app, ev_tmp, ev_const, av_int, x_assign, x_load, x_bin, x_fieldAddr, x_len, holdsO_ofO, bin_gtr, ↓reduceIte, Nat.reduceEqDiff, Nat.zero_add, Option.getD_some, Bool.not_false, enP, ln22, fa29_2, f1, load_last ag22, encB2, List.length_map]
    exact ⟨by unfold shape; rw [if_neg hk', if_pos hs], _, rfl⟩
  have hs' : ¬ ((b.steps.length : Int) == 0) = true := by rw [hs]; simp
  simp -implicitDefEqProofs only [List.getElem?_cons_zero, List.getElem?_cons_succ, awp_seq, awp_reg, WW_one, WW_guardE, GX_some, gdstO, none_md, none_fz, frz_nil, ownOp, wc_app, wcont_s, upd_app, ev_tmp, ev_const, av_int, x_move, x_load, x_bin, x_fieldAddr, x_len, holdsO_ofO, bin_gtr, ↓reduceIte, Nat.reduceEqDiff, Nat.zero_add, Option.getD_some, Bool.not_false, enP, ln22, fa29_2, f1, load_last ag22, encB2, List.length_map]
  refine G1_mid (fun F H => F 28 = .bool (decide ((b.ranges.l.length : Int) > 0) || b.kind != 0 || decide ((b.steps.length : Int) < 2) || decide ((b.steps.length : Int) > 8)) ∧ F 1 = .ptr h.length 0 0 ∧ H = h ++ [.live 4 [encB b]]) ?_ ?_
  · refine G1_of (fun ha => ?_) (fun ha => ?_)
    · simp -implicitDefEqProofs only [List.getElem?_cons_zero, List.getElem?_cons_succ, Bool.true_or, WW_one, WW_nil, WW_guardE, GX_some, gdstO, G1_ft, none_md, none_fz, frz_nil, ownOp, wc_app, wcont_s, upd_app, aput, ev_tmp, ev_const, av_bool, x_move, x_assign, x_pick, pick_t, ↓reduceIte, Nat.reduceEqDiff, Option.getD_some, Bool.not_false, ha, f1]
      exact ⟨trivial, trivial, trivial⟩
    simp -implicitDefEqProofs only [List.getElem?_cons_zero, List.getElem?_cons_succ, Bool.false_or, WW_one, WW_guardE, GX_some, gdstO, G1_ff, none_md, none_fz, frz_nil, ownOp, wc_app, wcont_s, upd_app, ev_tmp, ev_const, av_int, av_bool, x_move, x_pick, pick_f, x_load, x_bin, x_fieldAddr, holdsO_ofO, bin_neq, ↓reduceIte, Nat.reduceEqDiff, Nat.zero_add, Option.getD_some, Bool.not_false, enP, fa29_1, ha, f1, load_last ag3, encB1]
    refine G1_of (fun hb => ?_) (fun hb => ?_)
    · simp -implicitDefEqProofs only [List.getElem?_cons_zero, List.getElem?_cons_succ, Bool.true_or, WW_one, WW_nil, WW_guardE, GX_some, gdstO, G1_ft, none_md, none_fz, frz_nil, ownOp, wc_app, wcont_s, upd_app, aput, ev_tmp, ev_const, av_bool, x_move, x_assign, x_pick, pick_t, ↓reduceIte, Nat.reduceEqDiff, Option.getD_some, Bool.not_false, hb, f1]
      exact ⟨trivial, trivial, trivial⟩
    simp -implicitDefEqProofs only [List.getElem?_cons_zero, List.getElem?_cons_succ, Bool.false_or, WW_one, WW_guardE, GX_some, gdstO, G1_ff, none_md, none_fz, frz_nil, ownOp, wc_app, wcont_s, upd_app, ev_tmp, ev_const, av_int, av_bool, x_move, x_pick, pick_f, x_bin, holdsO_ofO, bin_lss, ↓reduceIte, Nat.reduceEqDiff, Option.getD_some, Bool.not_false, enP, hb, f3]
    refine G1_of (fun hc => ?_) (fun hc => ?_)
    · simp -implicitDefEqProofs only [List.getElem?_cons_zero, List.getElem?_cons_succ, Bool.true_or, WW_one, WW_nil, WW_guardE, GX_some, gdstO, G1_ft, none_md, none_fz, frz_nil, ownOp, wc_app, wcont_s, upd_app, aput, ev_tmp, ev_const, av_bool, x_assign, x_pick, pick_t, ↓reduceIte, Nat.reduceEqDiff, Option.getD_some, Bool.not_false, hc, f1]
      exact ⟨trivial, trivial, trivial⟩
    · simp -implicitDefEqProofs only [List.getElem?_cons_zero, List.getElem?_cons_succ, Bool.false_or, WW_one, WW_nil, WW_guardE, GX_some, gdstO, G1_ff, none_md, none_fz, frz_nil, ownOp, wc_app, wcont_s, upd_app, ev_tmp, ev_const, av_int, av_bool, x_move, x_assign, x_pick, pick_f, x_bin, holdsO_ofO, bin_gtr, ↓reduceIte, Nat.reduceEqDiff, Option.getD_some, Bool.not_false, enP, hc, f1, f3]
      exact ⟨trivial, trivial, trivial⟩
  rintro F H ⟨f28, f1, rfl⟩
  simp -implicitDefEqProofs only [List.getElem?_cons_zero, List.getElem?_cons_succ, awp_cond, seqQ_n, ev_tmp, f28]
  refine cond_of (fun ho => ?_) (fun ho => ?_)
  · simp -implicitDefEqProofs only [List.getElem?_cons_zero, List.getElem?_cons_succ, awp_seq, awp_reg, awp_ret, seqQ_n, seqQ_r, blk_r, end_r, WW_one, WW_nil, none_md, none_fz, frz_nil, ownOp, wc_app, wcont_s, upd_app, ev_const, av_bool, x_assign, ↓reduceIte, Option.getD_some, Bool.not_false]
    exact ⟨by unfold shape; rw [if_neg hk', if_neg hs', if_pos ho], _, rfl⟩
  have ho' : ¬ (decide ((b.ranges.l.length : Int) > 0) || b.kind != 0 || decide ((b.steps.length : Int) < 2) || decide ((b.steps.length : Int) > 8)) = true := by rw [ho]; simp
  simp -implicitDefEqProofs only [List.getElem?_cons_zero, List.getElem?_cons_succ, awp_seq, awp_reg, awp_skip, seqQ_n, blk_n, WW_one, none_md, none_fz, frz_nil, ownOp, wc_app, wcont_s, upd_app, ev_tmp, ev_func, x_load, x_fieldAddr, X1_call, callA_fn, holdsO_ofO, List.map_cons, List.map_nil, List.append_nil, ↓reduceIte, Nat.zero_add, Option.getD_some, Bool.not_false, enP, fa29_3, f1, load_last ag27, encB3]
  refine (containsFunc27 G b.steps b.sm 54 [] (fun l => decide (l.l.length = 0)) _ hl fun r => empty_fn G r _).use ?_
  simp -implicitDefEqProofs only [List.getElem?_cons_zero, List.getElem?_cons_succ, awp_ret, seqQ_n, end_r, WW_one, WW_nil, none_md, none_fz, frz_nil, ownOp, wc_app, wcont_s, upd_app, ev_tmp, x_assign, x_un, holdsO_ofO, un_not, ↓reduceIte, Option.getD_some, Bool.not_false]
  exact ⟨by unfold shape; rw [if_neg hk', if_neg hs', if_neg ho'], _, rfl⟩

theorem validE_name {b : Bin} (h : isName b.name = false) : validE b = 7 := by unfold validE; rw [h]; rfl
theorem validE_shape {b : Bin} (h : isName b.name = true) (hs : refShape b = true) : validE b = 1 := by unfold validE; rw [h, hs]; rfl
theorem validE_empty {b : Bin} (h : isName b.name = true) (hs : b.steps.any (fun l => decide (l.l.length = 0)) = true) : validE b = 1 := by
  unfold validE; rw [h, hs]; cases refShape b <;> rfl
theorem validE_sets {b : Bin} (h : isName b.name = true) (hs : refShape b = false) (he : b.steps.any (fun l => decide (l.l.length = 0)) = false) :
    validE b = if (sets b).any (fun l => decide (l.l.length > 64)) then 2 else if (sets b).any (fun l => l.l.any bad) then 1 else 0 := by
  unfold validE; rw [h, hs, he]; rfl

/-- a bin that fits -/
structure BinOk (b : Bin) : Prop where
  num : (sets b).length ≤ 1099511627776
  name : b.name.size ≤ 1099511627776
  steps : b.steps.length ≤ 1099511627776
  sets : ∀ l ∈ sets b, l.l.length ≤ 1099511627776

theorem rangesE_two (xs : List Rng) : decide (rangesE xs = 2) = decide (xs.length > 64) := by
  unfold rangesE
  split
  · simp_all
  · split <;> simp_all
theorem rangesE_one (xs : List Rng) : decide (rangesE xs = 1) = (decide (¬ xs.length > 64) && xs.any bad) := by
  unfold rangesE
  split
  · rename_i h; simp [h]
  · rename_i h
    split
    · rename_i h2; simp only [h2, h]; rfl
    · rename_i h2; simp only [Bool.not_eq_true] at h2; simp only [h2]; simp
theorem validE_E {b : Bin} (h : isName b.name = true) (hs : refShape b = false) (he : b.steps.any (fun l => decide (l.l.length = 0)) = false) :
    validE b = if (sets b).any (fun l => decide (rangesE l.l = 2)) then 2 else if (sets b).any (fun l => decide (rangesE l.l = 1)) then 1 else 0 := by
  rw [validE_sets h hs he]
  simp only [rangesE_two]
  split
  · rfl
  · rename_i hn
    have : (sets b).any (fun l => decide (rangesE l.l = 1)) = (sets b).any (fun l => l.l.any bad) := by
      rw [Bool.eq_iff_iff, List.any_eq_true, List.any_eq_true]
      constructor
      · rintro ⟨l, h1, h2⟩
        rw [rangesE_one] at h2
        simp only [Bool.and_eq_true] at h2
        exact ⟨l, h1, h2.2⟩
      · rintro ⟨l, h1, h2⟩
        refine ⟨l, h1, ?_⟩
        rw [rangesE_one, h2]
        rw [Bool.not_eq_true, List.any_eq_false] at hn
        have := hn l h1
        simp only [decide_eq_true_eq] at this
        simp only [this, not_false_eq_true, decide_true, Bool.and_self]
    rw [this]

theorem any_take {α : Type} (p : α → Bool) (xs : List α) (k : Nat) (h : k < xs.length) : (xs.take (k+1)).any p = ((xs.take k).any p || p xs[k]) := by
  rw [List.take_succ_eq_append_getElem h, List.any_append, List.any_cons, List.any_nil, Bool.or_false]

theorem valid_prog (G : Nat → AV) (hG : KwG G) (b : Bin) (hb : BinOk b) (h : Hp) : PCall (En G) 17 [.agg (encB b)] h (.int .i64 (validE b)) := by
  refine ACalls.pure0 rfl ?_
  refine acalls_of (H := Hint.none) (enM G) Tryd.func17 rfl (by kernel_rfl) (by kernel_rfl) (Nat.le_of_ble_eq_true (by kernel_rfl)) ?_
  show awp _ _ _ _ _ (endQ _ [.tmp 2] _)
  simp -implicitDefEqProofs only [List.getElem?_cons_zero, List.getElem?_cons_succ, awp_seq, awp_reg, seqQ_n, WW_one, WW_nil, none_md, none_fz, frz_nil, ownOp, wc_app, wcont_s, upd_app, ev_tmp, ev_const, ev_func, av_int, x_assign, x_box, x_load, x_fieldAddr, X1_call, callA_fn, holdsO_some, holdsO_ofO, frameOf_zero, List.map_cons, List.map_nil, List.append_nil, ↓reduceIte, Nat.reduceEqDiff, Nat.add_zero, Option.getD_some, Bool.not_false, enP, fa29_0, bxB, load_last ag9, encB0]
  refine (isName_prog G hG b.name _ hb.name).use ?_
  simp -implicitDefEqProofs only [List.getElem?_cons_zero, List.getElem?_cons_succ, awp_cond, seqQ_n, WW_one, WW_nil, none_md, none_fz, frz_nil, ownOp, wc_app, wcont_s, upd_app, ev_tmp, x_un, holdsO_ofO, un_not, ↓reduceIte, Option.getD_some, Bool.not_false]
  refine cond_of (fun hn => ?_) (fun hn => ?_)
  · simp -implicitDefEqProofs only [List.getElem?_cons_zero, List.getElem?_cons_succ, awp_seq, awp_reg, awp_ret, seqQ_n, seqQ_r, end_r, WW_one, WW_nil, none_md, none_fz, frz_nil, ownOp, wc_app, wcont_s, upd_app, ev_const, av_int, x_assign, ↓reduceIte, Option.getD_some, Bool.not_false]
    exact ⟨by rw [validE_name (by simpa using hn)], _, rfl⟩
  have hn' : isName b.name = true := by simpa using hn
  simp -implicitDefEqProofs only [List.getElem?_cons_zero, List.getElem?_cons_succ, awp_seq, awp_reg, awp_skip, seqQ_n, WW_one, none_md, none_fz, frz_nil, ownOp, wc_app, wcont_s, upd_app, ev_tmp, ev_func, x_load, X1_call, callA_fn, holdsO_ofO, List.map_cons, List.map_nil, List.append_nil, ↓reduceIte, Nat.reduceEqDiff, Option.getD_some, Bool.not_false, enP, ldB]
  refine (shape_prog G b _ hb.steps).use ?_
  simp -implicitDefEqProofs only [List.getElem?_cons_zero, List.getElem?_cons_succ, awp_cond, seqQ_n, WW_one, WW_nil, none_md, none_fz, frz_nil, ownOp, wc_app, wcont_s, upd_app, ev_tmp, x_un, holdsO_ofO, un_not, ↓reduceIte, Option.getD_some, Bool.not_false]
  refine cond_of (fun hs => ?_) (fun hs => ?_)
  · simp -implicitDefEqProofs only [List.getElem?_cons_zero, List.getElem?_cons_succ, awp_seq, awp_reg, awp_ret, seqQ_n, seqQ_r, end_r, WW_one, WW_nil, none_md, none_fz, frz_nil, ownOp, wc_app, wcont_s, upd_app, ev_const, av_int, x_assign, ↓reduceIte, Option.getD_some, Bool.not_false]
    refine ⟨?_, _, rfl⟩
    have h1 : shape b = false := by simpa using hs
    rw [shape_eq] at h1
    cases hr : refShape b with
    | true => rw [validE_shape hn' hr]
    | false =>
      rw [hr] at h1
      rw [validE_empty hn' (by simpa using h1)]
  have h1 : shape b = true := by simpa using hs
  rw [shape_eq] at h1
  simp only [Bool.and_eq_true, Bool.not_eq_true'] at h1
  have hv := validE_sets hn' h1.1 h1.2
  simp -implicitDefEqProofs only [List.getElem?_cons_zero, List.getElem?_cons_succ, awp_seq, awp_reg, awp_skip, seqQ_n, WW_one, WW_nil, none_md, none_fz, frz_nil, ownOp, wc_app, wcont_s, upd_app, ev_tmp, ev_const, ev_func, av_bool, x_assign, x_load, X1_call, callA_fn, holdsO_ofO, List.map_cons, List.map_nil, List.append_nil, ↓reduceIte, Nat.reduceEqDiff, Option.getD_some, Bool.not_false, enP, ldB]
  refine (sets_prog G b _).use ?_
  simp -implicitDefEqProofs only [List.getElem?_cons_zero, List.getElem?_cons_succ, awp_block, seqQ_n, WW_one, WW_nil, none_md, none_fz, frz_nil, ownOp, wc_app, wcont_s, upd_app, ev_tmp, ev_const, av_int, x_move, x_len, holdsO_ofO, ↓reduceIte, Option.getD_some, Bool.not_false, enP, ln27, List.length_map]
  refine awp_loop (fun n F H => ∃ k, n + k = (sets b).length ∧ F 3 = .bool (((sets b).take k).any fun l => decide (rangesE l.l = 2)) ∧ F 4 = .bool (((sets b).take k).any fun l => decide (rangesE l.l = 1)) ∧ F 15 = .sl (setsM b) 1 ((sets b).map encS) ∧ F 16 = .int .i64 (sets b).length ∧ F 17 = .int .i64 (k : Nat) ∧ H = h ++ [.live 4 [encB b]]) (sets b).length ⟨0, by simp, rfl, rfl, rfl, rfl, rfl, rfl⟩ ?_
  rintro n F H ⟨k, hk, f3, f4, f15, f16, f17, rfl⟩
  simp -implicitDefEqProofs only [List.getElem?_cons_zero, List.getElem?_cons_succ, awp_seq, awp_reg, awp_cond, seqQ_n, WW_one, WW_nil, none_md, none_fz, frz_nil, ownOp, wc_app, wcont_s, upd_app, ev_tmp, x_bin, holdsO_ofO, bin_lss, ↓reduceIte, Option.getD_some, Bool.not_false, enP, f16, f17]
  refine cond_of (fun hc => ?_) (fun hc => ?_)
  · have hc' : k < (sets b).length := by simpa using hc
    simp -implicitDefEqProofs only [List.getElem?_cons_zero, List.getElem?_cons_succ, awp_seq, awp_block, awp_reg, awp_skip, seqQ_n, WW_one, WW_nil, none_md, none_fz, frz_nil, ownOp, wc_app, wcont_s, upd_app, ev_tmp, ev_func, x_move, x_assign, x_load, x_indexAddr, X1_call, callA_fn, holdsO_ofO, List.map_cons, List.map_nil, List.append_nil, ↓reduceIte, Nat.reduceEqDiff, Option.getD_some, Bool.not_false, enP, ix27, f15, f17, ix_map hc', load_map ag22 hc', encS0]
    refine (ranges_prog G _ _ _ (hb.sets _ (List.getElem_mem hc'))).use ?_
    have t2 := any_take (fun l : Rs => decide (rangesE l.l = 2)) (sets b) k hc'
    have t1 := any_take (fun l : Rs => decide (rangesE l.l = 1)) (sets b) k hc'
    simp -implicitDefEqProofs only [List.getElem?_cons_zero, List.getElem?_cons_succ, awp_seq, awp_block, awp_reg, awp_cond, seqQ_n, WW_one, WW_nil, none_md, none_fz, frz_nil, ownOp, wc_app, wcont_s, upd_app, ev_tmp, ev_const, av_int, x_assign, x_bin, holdsO_ofO, bin_eql, ↓reduceIte, Option.getD_some, Bool.not_false, enP]
    refine cond_of (fun hd => ?_) (fun hd => ?_)
    · have hd' : rangesE (sets b)[k].l = 2 := by simpa using hd
      simp -implicitDefEqProofs only [List.getElem?_cons_zero, List.getElem?_cons_succ, awp_reg, seqQ_n, blk_n, rnd_n, WW_one, WW_nil, none_md, none_fz, frz_nil, ownOp, wc_app, wcont_s, upd_app, ev_tmp, ev_const, av_int, av_bool, x_move, x_assign, x_bin, holdsO_ofO, bin_add, ↓reduceIte, Nat.reduceEqDiff, Option.getD_some, Bool.not_false, enP, f17, wrap_succ (show k < 9223372036854775807 by have := hb.num; omega)]
      refine ⟨n - 1, by omega, k + 1, by omega, ?_, ?_, f15, f16, rfl, trivial⟩
      · rw [t2, hd']; simp
      · rw [f4, t1, hd']; simp
    simp -implicitDefEqProofs only [List.getElem?_cons_zero, List.getElem?_cons_succ, awp_seq, awp_reg, awp_cond, seqQ_n, WW_one, WW_nil, none_md, none_fz, frz_nil, ownOp, wc_app, wcont_s, upd_app, ev_tmp, ev_const, av_int, x_assign, x_bin, holdsO_ofO, bin_eql, ↓reduceIte, Nat.reduceEqDiff, Option.getD_some, Bool.not_false, enP]
    refine cond_of (fun he => ?_) (fun he => ?_)
    · have he' : rangesE (sets b)[k].l = 1 := by simpa using he
      simp -implicitDefEqProofs only [List.getElem?_cons_zero, List.getElem?_cons_succ, awp_reg, seqQ_n, blk_n, rnd_n, WW_one, WW_nil, none_md, none_fz, frz_nil, ownOp, wc_app, wcont_s, upd_app, ev_tmp, ev_const, av_int, av_bool, x_move, x_assign, x_bin, holdsO_ofO, bin_add, ↓reduceIte, Nat.reduceEqDiff, Option.getD_some, Bool.not_false, enP, f17, wrap_succ (show k < 9223372036854775807 by have := hb.num; omega)]
      refine ⟨n - 1, by omega, k + 1, by omega, ?_, ?_, f15, f16, rfl, trivial⟩
      · rw [f3, t2, he']; simp
      · rw [t1, he']; simp
    · have hd' : rangesE (sets b)[k].l ≠ 2 := by simpa using hd
      have he' : rangesE (sets b)[k].l ≠ 1 := by simpa using he
      simp -implicitDefEqProofs only [List.getElem?_cons_zero, List.getElem?_cons_succ, awp_reg, awp_skip, seqQ_n, blk_n, rnd_n, WW_one, WW_nil, none_md, none_fz, frz_nil, ownOp, wc_app, wcont_s, upd_app, ev_tmp, ev_const, av_int, x_move, x_bin, holdsO_ofO, bin_add, ↓reduceIte, Nat.reduceEqDiff, Option.getD_some, Bool.not_false, enP, f17, wrap_succ (show k < 9223372036854775807 by have := hb.num; omega)]
      refine ⟨n - 1, by omega, k + 1, by omega, ?_, ?_, f15, f16, rfl, trivial⟩
      · rw [f3, t2]; simp [hd']
      · rw [f4, t1]; simp [he']
  · have hc' : ¬ k < (sets b).length := by simpa using hc
    rw [List.take_of_length_le (by omega)] at f3 f4
    have hE := validE_E hn' h1.1 h1.2
    simp -implicitDefEqProofs only [List.getElem?_cons_zero, List.getElem?_cons_succ, awp_seq, awp_block, awp_reg, awp_exit, awp_cond, seqQ_n, seqQ_e, blk_e, rnd_e, WW_one, WW_nil, none_md, none_fz, frz_nil, ownOp, wc_app, wcont_s, upd_app, ev_tmp, x_move, x_assign, ↓reduceIte, Nat.reduceEqDiff, Option.getD_some, Bool.not_false, f3]
    refine cond_of (fun hd => ?_) (fun hd => ?_)
    · simp -implicitDefEqProofs only [List.getElem?_cons_zero, List.getElem?_cons_succ, awp_seq, awp_reg, awp_ret, seqQ_n, seqQ_r, blk_r, end_r, WW_one, WW_nil, none_md, none_fz, frz_nil, ownOp, wc_app, wcont_s, upd_app, ev_const, av_int, x_assign, ↓reduceIte, Option.getD_some, Bool.not_false]
      exact ⟨by rw [hE, if_pos hd], _, rfl⟩
    simp -implicitDefEqProofs only [List.getElem?_cons_zero, List.getElem?_cons_succ, awp_seq, awp_reg, awp_cond, seqQ_n, WW_one, WW_nil, none_md, none_fz, frz_nil, ownOp, wc_app, wcont_s, upd_app, ev_tmp, x_move, x_assign, ↓reduceIte, Nat.reduceEqDiff, Option.getD_some, Bool.not_false, f4]
    refine cond_of (fun he => ?_) (fun he => ?_)
    · simp -implicitDefEqProofs only [List.getElem?_cons_zero, List.getElem?_cons_succ, awp_seq, awp_reg, awp_ret, seqQ_n, seqQ_r, blk_r, end_r, WW_one, WW_nil, none_md, none_fz, frz_nil, ownOp, wc_app, wcont_s, upd_app, ev_const, av_int, x_assign, ↓reduceIte, Option.getD_some, Bool.not_false]
      exact ⟨by rw [hE, if_neg (by rw [hd]; simp), if_pos he], _, rfl⟩
    · simp -implicitDefEqProofs only [List.getElem?_cons_zero, List.getElem?_cons_succ, awp_seq, awp_reg, awp_skip, awp_ret, seqQ_n, blk_n, end_r, WW_one, WW_nil, none_md, none_fz, frz_nil, ownOp, wc_app, wcont_s, upd_app, ev_const, av_int, x_assign, ↓reduceIte, Option.getD_some, Bool.not_false]
      exact ⟨by rw [hE, if_neg (by rw [hd]; simp), if_neg (by rw [he]; simp)], _, rfl⟩
end Go.Proofs.YtpdohkcjhphibaaDoor.Bins
