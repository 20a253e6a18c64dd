/- Part 5 of the proof (E1, E2, E3, E4, E5, E6, E7, E8, E9, E10); no condition. -/
import Derived.Shelf.Strings.Cut
import Derived.Lib.IndexMore
import Derived.Test.YtocilianjfhifaaGreatDoorP4
set_option linter.unusedVariables false
/- Expressions: their encoding, their nodes, their readers; no condition. -/
namespace Go.Proofs.YtocilianjfhifaaGreatDoor.Cov
open Go Go.Proofs.YtocilianjfhifaaGreatDoor.Sm Go.Proofs.YtocilianjfhifaaGreatDoor.Bins

inductive Ex where
  | mk (op n : Int) (name : ByteArray) (m : SM) (args : List Ex)
def Ex.op : Ex → Int | .mk op _ _ _ _ => op
def Ex.n : Ex → Int | .mk _ n _ _ _ => n
def Ex.name : Ex → ByteArray | .mk _ _ name _ _ => name
def Ex.m : Ex → SM | .mk _ _ _ m _ => m
def Ex.args : Ex → List Ex | .mk _ _ _ _ args => args
mutual
def encE : Ex → List AV
  | .mk op n name m args => [.int .i64 op, .int .i64 n, .str name, .sl m 4 (encEs args)]
def encEs : List Ex → List (List AV)
  | [] => []
  | e :: es => encE e :: encEs es
end
theorem encEs_map : ∀ l : List Ex, encEs l = l.map encE
  | [] => by simp [encEs]
  | e :: es => by simp [encEs, encEs_map es]
theorem encE_eq (e : Ex) : encE e = [.int .i64 e.op, .int .i64 e.n, .str e.name, .sl e.m 4 (e.args.map encE)] := by
  cases e; simp [encE, encEs_map, Ex.op, Ex.n, Ex.name, Ex.m, Ex.args]
theorem encE_len (e : Ex) : (encE e).length = 4 := by rw [encE_eq]; rfl
theorem encE0 (e : Ex) : (encE e)[0]? = some (.int .i64 e.op) := by rw [encE_eq]; rfl
theorem encE1 (e : Ex) : (encE e)[1]? = some (.int .i64 e.n) := by rw [encE_eq]; rfl
theorem encE2 (e : Ex) : (encE e)[2]? = some (.str e.name) := by rw [encE_eq]; rfl
theorem encE3 (e : Ex) : (encE e)[3]? = some (.sl e.m 4 (e.args.map encE)) := by rw [encE_eq]; rfl
theorem encE_leaf (e : Ex) : (encE e).all AV.leaf = true := by rw [encE_eq]; rfl
theorem bxE (h : Hp) (e : Ex) : aBox h (.agg (encE e)) = some (.ptr h.length 0 0, h ++ [.live 4 [encE e]]) := by
  have := box_agg (h := h) (encE_leaf e)
  rw [encE_len] at this; exact this
theorem ldE (h : Hp) (e : Ex) : aLoad Tryz.prog (h ++ [.live 4 [encE e]]) 53 (.ptr h.length 0 0) = some (.agg (encE e)) := by
  rw [load_topA ag53 sz53 (by rw [encE_len]; exact Nat.le_refl 4)]
  rw [List.drop_zero, List.take_of_length_le (by rw [encE_len]; exact Nat.le_refl 4)]
theorem ldE_at {h : Hp} {b : Nat} {e : Ex} (hb : h[b]? = some (.live 4 [encE e])) : aLoad Tryz.prog h 53 (.ptr b 0 0) = some (.agg (encE e)) := by
  rw [load_rowA ag53 sz53 hb rfl (by rw [encE_len]; exact Nat.le_refl 4)]
  rw [List.drop_zero, List.take_of_length_le (by rw [encE_len]; exact Nat.le_refl 4)]

mutual
/-- the nodes, each ahead of its operands -/
def pre : Ex → List Ex
  | .mk op n name m args => .mk op n name m args :: pres args
def pres : List Ex → List Ex
  | [] => []
  | e :: es => pre e ++ pres es
end
mutual
def dep : Ex → Nat
  | .mk _ _ _ _ args => deps args + 1
def deps : List Ex → Nat
  | [] => 0
  | e :: es => max (dep e) (deps es)
end
mutual
/-- how much an expression weighs -/
def wt : Ex → Nat
  | .mk _ _ name _ args => name.size + 1 + wts args
def wts : List Ex → Nat
  | [] => 0
  | e :: es => wt e + wts es
end
theorem pre_eq (e : Ex) : pre e = e :: pres e.args := by cases e; simp [pre, Ex.args]
theorem dep_eq (e : Ex) : dep e = deps e.args + 1 := by cases e; simp [dep, Ex.args]
theorem wt_eq (e : Ex) : wt e = e.name.size + 1 + wts e.args := by cases e; simp [wt, Ex.args, Ex.name]
theorem pres_append (xs ys : List Ex) : pres (xs ++ ys) = pres xs ++ pres ys := by
  induction xs with
  | nil => simp [pres]
  | cons x xs ih => simp [pres, ih]
theorem wts_len (xs : List Ex) : xs.length ≤ wts xs := by
  induction xs with
  | nil => simp [wts]
  | cons x xs ih => have := wt_eq x; simp [wts]; omega
theorem wts_mem {xs : List Ex} {x : Ex} (h : x ∈ xs) : wt x ≤ wts xs := by
  induction xs with
  | nil => cases h
  | cons y ys ih =>
    simp only [wts]
    cases List.mem_cons.1 h with
    | inl e => subst e; omega
    | inr e => have := ih e; omega
theorem deps_take (xs : List Ex) (k : Nat) (h : k < xs.length) : deps (xs.take (k + 1)) = max (deps (xs.take k)) (dep xs[k]) := by
  induction xs generalizing k with
  | nil => simp at h
  | cons x xs ih =>
    cases k with
    | zero => simp [deps]
    | succ k =>
      simp only [List.take_succ_cons, deps, List.getElem_cons_succ]
      rw [ih k (by simpa using h), Nat.max_assoc]
theorem Ex.induct {P : Ex → Prop} (h : ∀ e : Ex, (∀ a ∈ e.args, P a) → P e) (e : Ex) : P e := by
  have : ∀ n (e : Ex), wt e ≤ n → P e := by
    intro n
    induction n with
    | zero => intro e he; have := wt_eq e; omega
    | succ n ih =>
      intro e he
      refine h e fun a ha => ih a ?_
      have h1 := wts_mem ha
      have h2 := wt_eq e
      omega
  exact this _ e (Nat.le_refl _)
theorem dep_wt (e : Ex) : dep e ≤ wt e := by
  refine Ex.induct (P := fun e => dep e ≤ wt e) (fun e ih => ?_) e
  rw [dep_eq, wt_eq]
  have : deps e.args ≤ wts e.args := by
    generalize e.args = l at ih
    induction l with
    | nil => simp [deps, wts]
    | cons x l ih2 =>
      have h1 := ih x (by simp)
      have h2 := ih2 (fun a ha => ih a (by simp [ha]))
      simp only [deps, wts]; omega
  omega
theorem pre_wt (e : Ex) : (pre e).length ≤ wt e := by
  refine Ex.induct (P := fun e => (pre e).length ≤ wt e) (fun e ih => ?_) e
  rw [pre_eq, wt_eq]
  have : (pres e.args).length ≤ wts e.args := by
    generalize e.args = l at ih
    induction l with
    | nil => simp [pres, wts]
    | cons x l ih2 =>
      have h1 := ih x (by simp)
      have h2 := ih2 (fun a ha => ih a (by simp [ha]))
      simp only [pres, wts, List.length_append]; omega
  simp; omega
end Go.Proofs.YtocilianjfhifaaGreatDoor.Cov
/- Operators: how many operands; whether a node is well formed; no condition. -/
set_option linter.unusedSimpArgs false
set_option maxRecDepth 8000
namespace Go.Proofs.YtocilianjfhifaaGreatDoor.Cov
open Go Go.Proofs.YtocilianjfhifaaGreatDoor.Sm Go.Proofs.YtocilianjfhifaaGreatDoor.Bins

def arity (op : Int) : Int := if op < 1 ∨ op > 25 then -1 else if op = 1 ∨ op = 2 ∨ op = 24 then 0 else if op = 3 ∨ op = 4 ∨ op = 5 ∨ op = 6 ∨ op = 25 then 1 else if op = 22 then 3 else if op = 23 then -1 else 2
set_option maxHeartbeats 2000000 in
theorem arity_prog (G : Nat → AV) (op : Int) (h : Hp) : PCall (En G) 258 [.int .i64 op] h (.int .i64 (arity op)) := by
  refine acalls_of (H := Hint.none) (enM G) Tryz.func258 rfl (by kernel_rfl) (by kernel_rfl) (Nat.le_of_ble_eq_true (by kernel_rfl)) ?_
  show awp _ _ _ _ _ (endQ _ [.tmp 2] _)
  have hcase : op < 1 ∨ op > 25 ∨ op = 1 ∨ op = 2 ∨ op = 3 ∨ op = 4 ∨ op = 5 ∨ op = 6 ∨ op = 7 ∨ op = 8 ∨ op = 9 ∨ op = 10 ∨ op = 11 ∨ op = 12 ∨ op = 13 ∨ op = 14 ∨ op = 15 ∨ op = 16 ∨ op = 17 ∨ op = 18 ∨ op = 19 ∨ op = 20 ∨ op = 21 ∨ op = 22 ∨ op = 23 ∨ op = 24 ∨ op = 25 := by omega
  rcases hcase with h | h | rfl | rfl | rfl | rfl | rfl | rfl | rfl | rfl | rfl | rfl | rfl | rfl | rfl | rfl | rfl | rfl | rfl | rfl | rfl | rfl | rfl | rfl | rfl | rfl | rfl
  · have hne : ∀ k : Int, 1 ≤ k → (op == k) = false := fun k hk => beq_eq_false_iff_ne.2 (by omega)
    have hd : decide (op < 1) = true := by simp; omega
    have ha : arity op = -1 := by unfold arity; rw [if_pos (Or.inl h)]
    rw [ha]
    simp -implicitDefEqProofs only [awp_seq, awp_block, awp_reg, awp_skip, awp_ret, awp_cond, seqQ_n, seqQ_r, blk_n, end_r, cond_t, cond_f, WW_one, WW_nil, WW_guardE, GX_some, gdstO, G1_ft, none_md, none_fz, frz_nil, ownOp, wc_app, wcont_s, upd_app, aput, ev_tmp, ev_const, av_int, av_bool, x_move, x_assign, x_pick, pick_t, x_bin, holdsO_ofO, bin_eql, bin_lss, frameOf_zero, ↓reduceIte, Nat.reduceEqDiff, Option.getD_some, Bool.not_false, enP, hne 1 (by decide), hne 2 (by decide), hne 3 (by decide), hne 4 (by decide), hne 5 (by decide), hne 6 (by decide), hne 7 (by decide), hne 8 (by decide), hne 9 (by decide), hne 10 (by decide), hne 11 (by decide), hne 12 (by decide), hne 13 (by decide), hne 14 (by decide), hne 15 (by decide), hne 16 (by decide), hne 17 (by decide), hne 18 (by decide), hne 19 (by decide), hne 20 (by decide), hne 21 (by decide), hne 22 (by decide), hne 23 (by decide), hne 24 (by decide), hne 25 (by decide), hd]
    exact ⟨trivial, trivial⟩
  · have hne : ∀ k : Int, k ≤ 25 → (op == k) = false := fun k hk => beq_eq_false_iff_ne.2 (by omega)
    have hd : decide (op < 1) = false := by simp; omega
    have hd2 : decide (op > 25) = true := by simp; omega
    have ha : arity op = -1 := by unfold arity; rw [if_pos (Or.inr h)]
    rw [ha]
    simp -implicitDefEqProofs only [awp_seq, awp_block, awp_reg, awp_skip, awp_ret, awp_cond, seqQ_n, seqQ_r, blk_n, end_r, cond_t, cond_f, WW_one, WW_nil, WW_guardE, GX_some, gdstO, G1_ff, none_md, none_fz, frz_nil, ownOp, wc_app, wcont_s, upd_app, ev_tmp, ev_const, av_int, av_bool, x_move, x_assign, x_pick, pick_f, x_bin, holdsO_ofO, bin_eql, bin_lss, bin_gtr, frameOf_zero, ↓reduceIte, Nat.reduceEqDiff, Option.getD_some, Bool.not_false, enP, hne 1 (by decide), hne 2 (by decide), hne 3 (by decide), hne 4 (by decide), hne 5 (by decide), hne 6 (by decide), hne 7 (by decide), hne 8 (by decide), hne 9 (by decide), hne 10 (by decide), hne 11 (by decide), hne 12 (by decide), hne 13 (by decide), hne 14 (by decide), hne 15 (by decide), hne 16 (by decide), hne 17 (by decide), hne 18 (by decide), hne 19 (by decide), hne 20 (by decide), hne 21 (by decide), hne 22 (by decide), hne 23 (by decide), hne 24 (by decide), hne 25 (by decide), hd, hd2]
    exact ⟨trivial, trivial⟩
  all_goals
    simp -implicitDefEqProofs only [awp_seq, awp_block, awp_reg, awp_skip, awp_ret, awp_cond, seqQ_n, seqQ_r, blk_n, blk_r, end_r, cond_t, cond_f, WW_one, WW_nil, WW_guardE, GX_some, gdstO, G1_ff, none_md, none_fz, frz_nil, ownOp, wc_app, wcont_s, upd_app, ev_tmp, ev_const, av_int, av_bool, x_move, x_assign, x_pick, pick_f, x_bin, holdsO_ofO, bin_eql, bin_lss, bin_gtr, frameOf_zero, ↓reduceIte, Nat.reduceEqDiff, Option.getD_some, Bool.not_false, decide_false, enP, Int.reduceBEq, Int.reduceLT, Int.reduceGT]
    exact ⟨rfl, trivial⟩

set_option maxHeartbeats 2000000 in
theorem arity_ref (G : Nat → AV) (op : Int) (h : Hp) : PCall (En G) 254 [.int .i64 op] h (.int .i64 (arity op)) := by
  refine acalls_of (H := Hint.none) (enM G) Tryz.func254 rfl (by kernel_rfl) (by kernel_rfl) (Nat.le_of_ble_eq_true (by kernel_rfl)) ?_
  show awp _ _ _ _ _ (endQ _ [.tmp 2] _)
  have hcase : op < 1 ∨ op > 25 ∨ op = 1 ∨ op = 2 ∨ op = 3 ∨ op = 4 ∨ op = 5 ∨ op = 6 ∨ op = 7 ∨ op = 8 ∨ op = 9 ∨ op = 10 ∨ op = 11 ∨ op = 12 ∨ op = 13 ∨ op = 14 ∨ op = 15 ∨ op = 16 ∨ op = 17 ∨ op = 18 ∨ op = 19 ∨ op = 20 ∨ op = 21 ∨ op = 22 ∨ op = 23 ∨ op = 24 ∨ op = 25 := by omega
  rcases hcase with h | h | rfl | rfl | rfl | rfl | rfl | rfl | rfl | rfl | rfl | rfl | rfl | rfl | rfl | rfl | rfl | rfl | rfl | rfl | rfl | rfl | rfl | rfl | rfl | rfl | rfl
  · have hne : ∀ k : Int, 1 ≤ k → (op == k) = false := fun k hk => beq_eq_false_iff_ne.2 (by omega)
    have hd : decide (op < 1) = true := by simp; omega
    have ha : arity op = -1 := by unfold arity; rw [if_pos (Or.inl h)]
    rw [ha]
    simp -implicitDefEqProofs only [awp_seq, awp_block, awp_reg, awp_skip, awp_ret, awp_cond, seqQ_n, seqQ_r, blk_n, end_r, cond_t, cond_f, WW_one, WW_nil, WW_guardE, GX_some, gdstO, G1_ft, none_md, none_fz, frz_nil, ownOp, wc_app, wcont_s, upd_app, aput, ev_tmp, ev_const, av_int, av_bool, x_move, x_assign, x_pick, pick_t, x_bin, holdsO_ofO, bin_eql, bin_lss, frameOf_zero, ↓reduceIte, Nat.reduceEqDiff, Option.getD_some, Bool.not_false, enP, hne 1 (by decide), hne 2 (by decide), hne 3 (by decide), hne 4 (by decide), hne 5 (by decide), hne 6 (by decide), hne 7 (by decide), hne 8 (by decide), hne 9 (by decide), hne 10 (by decide), hne 11 (by decide), hne 12 (by decide), hne 13 (by decide), hne 14 (by decide), hne 15 (by decide), hne 16 (by decide), hne 17 (by decide), hne 18 (by decide), hne 19 (by decide), hne 20 (by decide), hne 21 (by decide), hne 22 (by decide), hne 23 (by decide), hne 24 (by decide), hne 25 (by decide), hd]
    exact ⟨trivial, trivial⟩
  · have hne : ∀ k : Int, k ≤ 25 → (op == k) = false := fun k hk => beq_eq_false_iff_ne.2 (by omega)
    have hd : decide (op < 1) = false := by simp; omega
    have hd2 : decide (op > 25) = true := by simp; omega
    have ha : arity op = -1 := by unfold arity; rw [if_pos (Or.inr h)]
    rw [ha]
    simp -implicitDefEqProofs only [awp_seq, awp_block, awp_reg, awp_skip, awp_ret, awp_cond, seqQ_n, seqQ_r, blk_n, end_r, cond_t, cond_f, WW_one, WW_nil, WW_guardE, GX_some, gdstO, G1_ff, none_md, none_fz, frz_nil, ownOp, wc_app, wcont_s, upd_app, ev_tmp, ev_const, av_int, av_bool, x_move, x_assign, x_pick, pick_f, x_bin, holdsO_ofO, bin_eql, bin_lss, bin_gtr, frameOf_zero, ↓reduceIte, Nat.reduceEqDiff, Option.getD_some, Bool.not_false, enP, hne 1 (by decide), hne 2 (by decide), hne 3 (by decide), hne 4 (by decide), hne 5 (by decide), hne 6 (by decide), hne 7 (by decide), hne 8 (by decide), hne 9 (by decide), hne 10 (by decide), hne 11 (by decide), hne 12 (by decide), hne 13 (by decide), hne 14 (by decide), hne 15 (by decide), hne 16 (by decide), hne 17 (by decide), hne 18 (by decide), hne 19 (by decide), hne 20 (by decide), hne 21 (by decide), hne 22 (by decide), hne 23 (by decide), hne 24 (by decide), hne 25 (by decide), hd, hd2]
    exact ⟨trivial, trivial⟩
  all_goals
    simp -implicitDefEqProofs only [awp_seq, awp_block, awp_reg, awp_skip, awp_ret, awp_cond, seqQ_n, seqQ_r, blk_r, end_r, cond_t, cond_f, WW_one, WW_nil, none_md, none_fz, frz_nil, ownOp, wc_app, wcont_s, upd_app, ev_tmp, ev_const, av_int, x_move, x_assign, x_bin, holdsO_ofO, bin_eql, frameOf_zero, ↓reduceIte, Nat.reduceEqDiff, Option.getD_some, Bool.not_false, enP, Int.reduceBEq, Int.reduceLT, Int.reduceGT]
    exact ⟨rfl, trivial⟩

def namedB (op : Int) : Bool := op == 2 || op == 3 || op == 24
theorem named_ref (G : Nat → AV) (op : Int) (h : Hp) : PCall (En G) 246 [.int .i64 op] h (.bool (namedB op)) := by
  refine acalls_of (H := Hint.none) (enM G) Tryz.func246 rfl (by kernel_rfl) (by kernel_rfl) (Nat.le_of_ble_eq_true (by kernel_rfl)) ?_
  show awp _ _ _ _ _ (endQ _ [.tmp 2] _)
  simp -implicitDefEqProofs only [awp_seq, awp_reg, seqQ_n, WW_one, WW_nil, WW_guardE, GX_some, gdstO, none_md, none_fz, frz_nil, ownOp, wc_app, wcont_s, upd_app, ev_tmp, ev_const, av_int, av_bool, x_move, x_assign, x_bin, holdsO_ofO, bin_eql, frameOf_zero, ↓reduceIte, Nat.reduceEqDiff, Option.getD_some, Bool.not_false, enP]
  cases ha : (op == 2) <;> cases hb : (op == 3)
  all_goals
    simp -implicitDefEqProofs only [awp_ret, seqQ_n, end_r, WW_one, WW_nil, WW_guardE, GX_some, gdstO, G1_ff, G1_ft, none_md, none_fz, frz_nil, ownOp, wc_app, wcont_s, upd_app, aput, ev_tmp, ev_const, av_int, av_bool, x_move, x_assign, x_pick, pick_t, pick_f, x_bin, holdsO_ofO, bin_eql, frameOf_zero, ↓reduceIte, Nat.reduceEqDiff, Option.getD_some, Bool.not_false, enP, ha, hb]
    exact ⟨by simp [namedB, ha, hb], trivial⟩
/-- as many operands as the operator allows -/
def opsB (op : Int) (n : Nat) : Bool := if op == 23 then ((n : Int) % 2 == 1) && decide ((n : Int) ≥ 3) && decide ((n : Int) ≤ 33) else ((n : Int) == arity op)
theorem operands_prog (G : Nat → AV) (e : Ex) (h : Hp) : PCall (En G) 231 [.agg (encE e)] h (.bool (opsB e.op e.args.length)) := by
  refine ACalls.pure0 rfl ?_
  refine acalls_of (H := Hint.none) (enM G) Tryz.func231 rfl (by kernel_rfl) (by kernel_rfl) (Nat.le_of_ble_eq_true (by kernel_rfl)) ?_
  show awp _ _ _ _ _ (endQ _ [.tmp 2] _)
  simp -implicitDefEqProofs only [awp_seq, awp_reg, awp_cond, seqQ_n, WW_one, WW_nil, none_md, none_fz, frz_nil, ownOp, wc_app, wcont_s, upd_app, ev_tmp, ev_const, av_int, av_bool, x_assign, x_box, x_load, x_bin, x_fieldAddr, x_len, holdsO_some, holdsO_ofO, bin_eql, frameOf_zero, ↓reduceIte, Nat.reduceEqDiff, Nat.add_zero, Nat.zero_add, Option.getD_some, Bool.not_false, enP, ln51, fa53_0, fa53_3, bxE, load_last ag51, load_last ag3, encE3, encE0, List.length_map]
  generalize he : e.args.length = n
  have hm : (n : Int).tmod 2 = (n : Int) % 2 := Int.tmod_eq_emod_of_nonneg (by omega)
  have b1 : aBin Tryz.prog 3 .rem (.int .i64 (n : Int)) (.int .i64 2) = some (.int .i64 ((n : Int) % 2)) := by rw [bin_rem _ _ _ _ _ (by decide), hm]
  refine cond_of (fun hc => ?_) (fun hc => ?_)
  · simp -implicitDefEqProofs only [awp_seq, awp_reg, WW_one, WW_guardE, GX_some, gdstO, none_md, none_fz, frz_nil, ownOp, wc_app, wcont_s, upd_app, ev_tmp, ev_const, av_int, x_move, x_bin, holdsO_ofO, bin_eql, ↓reduceIte, Nat.reduceEqDiff, Option.getD_some, Bool.not_false, enP, b1]
    cases ha : ((n : Int) % 2 == 1) <;> cases hb : decide ((n : Int) ≥ 3)
    all_goals
      simp -implicitDefEqProofs only [awp_ret, seqQ_n, seqQ_r, end_r, WW_one, WW_nil, WW_guardE, GX_some, gdstO, G1_tt, G1_tf, none_md, none_fz, frz_nil, ownOp, wc_app, wcont_s, upd_app, aput, ev_tmp, ev_const, av_int, av_bool, x_move, x_assign, x_pick, pick_t, pick_f, x_bin, holdsO_ofO, bin_leq, bin_geq, ↓reduceIte, Nat.reduceEqDiff, Option.getD_some, Bool.not_false, enP, ha, hb]
      exact ⟨by unfold opsB; rw [if_pos hc, ha, hb]; simp, _, rfl⟩
  · simp -implicitDefEqProofs only [awp_seq, awp_reg, awp_skip, seqQ_n, WW_one, none_md, none_fz, frz_nil, ownOp, wc_app, wcont_s, upd_app, ev_tmp, ev_func, x_move, x_load, x_fieldAddr, X1_call, callA_fn, holdsO_ofO, List.map_cons, List.map_nil, List.append_nil, ↓reduceIte, Nat.reduceEqDiff, Nat.add_zero, Option.getD_some, Bool.not_false, enP, fa53_0, load_last ag3, encE0]
    refine (arity_prog G e.op _).use ?_
    simp -implicitDefEqProofs only [awp_ret, seqQ_n, end_r, WW_one, WW_nil, none_md, none_fz, frz_nil, ownOp, wc_app, wcont_s, upd_app, ev_tmp, x_assign, x_bin, holdsO_ofO, bin_eql, ↓reduceIte, Nat.reduceEqDiff, Option.getD_some, Bool.not_false, enP]
    exact ⟨by unfold opsB; rw [if_neg (by rw [hc]; decide)], _, rfl⟩
end Go.Proofs.YtocilianjfhifaaGreatDoor.Cov
/- Element names and variable names, on both sides; no condition but the variables that are laid. -/
namespace Go.Proofs.YtocilianjfhifaaGreatDoor.Cov
open Go Go.Proofs Go.Proofs.YtocilianjfhifaaGreatDoor.Sm Go.Proofs.YtocilianjfhifaaGreatDoor.Bins Go.Shelf Go.RowKit

def cutR_ren : Go.Shelf.Ren := ⟨fun | 145 => 290 | 220 => 304 | 219 => 305 | 217 => 306 | 225 => 307 | 224 => 308 | 267 => 309 | 266 => 310 | 314 => 311 | n => n, fun | 9 => 9 | 4 => 4 | 59 => 261 | 3 => 3 | 5 => 5 | 46 => 269 | 146 => 273 | 51 => 272 | n => n, fun | 1 => 1 | n => n⟩
theorem cutR : Go.Proofs.Lays.n145 Tryz.prog cutR_ren := {
  mixed := by kernel_rfl,
  f145 := Tryz.func290.trans (congrArg some (by kernel_rfl)),
  f217 := Tryz.func306.trans (congrArg some (by kernel_rfl)),
  f219 := Tryz.func305.trans (congrArg some (by kernel_rfl)),
  f220 := Tryz.func304.trans (congrArg some (by kernel_rfl)),
  f224 := Tryz.func308.trans (congrArg some (by kernel_rfl)),
  f225 := Tryz.func307.trans (congrArg some (by kernel_rfl)),
  f266 := Tryz.func310.trans (congrArg some (by kernel_rfl)),
  f267 := Tryz.func309.trans (congrArg some (by kernel_rfl)),
  f314 := Tryz.func311.trans (congrArg some (by kernel_rfl)),
  t3 := Tryz.underlying3,
  a3 := Tryz.isAgg3,
  z3 := Tryz.sizeOf3,
  v3 := Tryz.zeroValue3,
  t4 := Tryz.underlying4,
  a4 := Tryz.isAgg4,
  z4 := Tryz.sizeOf4,
  v4 := Tryz.zeroValue4,
  t5 := Tryz.underlying5,
  a5 := Tryz.isAgg5,
  z5 := Tryz.sizeOf5,
  v5 := Tryz.zeroValue5,
  t9 := Tryz.underlying9,
  a9 := Tryz.isAgg9,
  z9 := Tryz.sizeOf9,
  v9 := Tryz.zeroValue9,
  t46 := Tryz.underlying269,
  a46 := Tryz.isAgg269,
  z46 := Tryz.sizeOf269,
  v46 := Tryz.zeroValue269,
  t51 := Tryz.underlying272,
  a51 := Tryz.isAgg272,
  z51 := Tryz.sizeOf272,
  v51 := Tryz.zeroValue272,
  t59 := Tryz.underlying261,
  a59 := Tryz.isAgg261,
  z59 := Tryz.sizeOf261,
  v59 := Tryz.zeroValue261,
  t146 := Tryz.underlying273,
  a146 := Tryz.isAgg273,
  z146 := Tryz.sizeOf273,
  v146 := Tryz.zeroValue273,
  g1 := by kernel_rfl }

/-- what the package-level variables hold -/
structure GOk (G : Nat → AV) : Prop where
  kw : KwG G
  mx : ∃ n, G 1 = .fptr 1 [[.int .i64 n]] 0 0
theorem glob_int {G : Nat → AV} {g : Gh} {h : Hp} {w : World} {n : Nat} {k : IntKind} {z : Int} (S : SimH (En G) g h w) (hn : G n = .fptr 1 [[.int k z]] 0 0) : w.cell? ⟨n, 0, none⟩ = some (.int k z) := by
  have := S.glob n
  rw [enG, hn] at this
  generalize hp : Value.pointer (some ⟨n, 0, none⟩) = p at this
  cases this with
  | fptr k' xs i j cb co c e fz cv h1 h2 h3 h4 =>
    simp only [Value.pointer.injEq, Option.some.injEq, Addr.mk.injEq] at hp
    obtain ⟨rfl, hco, _⟩ := hp
    have h5 := h3 0 0 (by simp) (by simp)
    have h6 := h4 0 0 _ _ rfl rfl
    generalize cv 0 0 = u at h5 h6
    cases h6
    simp only [World.cell?, S.fro _ _ h1]
    subst hco
    exact h5
def cutV (s : ByteArray) : AV := .tup [.str ⟨(Lib.cut s.data.toList [91]).1.toArray⟩, .str ⟨(Lib.cut s.data.toList [91]).2.1.toArray⟩, .bool (Lib.cut s.data.toList [91]).2.2]
theorem cut_prog (G : Nat → AV) (hG : GOk G) (s : ByteArray) (h : Hp) (hl : s.size ≤ 1048576) : PCall (En G) 290 [.str s, .str ⟨#[91]⟩] h (cutV s) := by
  refine PCall.of_reads (cok 290 G (by kernel_rfl)) fun g w cargs S ha => ?_
  obtain ⟨hsz, hget⟩ := ha
  obtain ⟨cv0, cv1, rfl⟩ : ∃ a b, cargs = #[a, b] := by
    obtain ⟨l⟩ := cargs
    match l, hsz with
    | [a, b], _ => exact ⟨a, b, rfl⟩
  obtain rfl := (hget 0 _ cv0 rfl rfl).str_inv
  obtain rfl := (hget 1 _ cv1 rfl rfl).str_inv
  obtain ⟨z, hz⟩ := hG.mx
  have hc := glob_int S hz
  have := Any.strings_Cut cutR s ⟨#[91]⟩ z w (by omega) hc
  refine ⟨_, ?_, this⟩
  refine .tup _ _ rfl ?_
  intro i v cv h1 h2
  match i, h1, h2 with
  | 0, h1, h2 => simp at h1 h2; subst h1; subst h2; exact .str _ _
  | 1, h1, h2 => simp at h1 h2; subst h1; subst h2; exact .str _ _
  | 2, h1, h2 => simp at h1 h2; subst h1; subst h2; exact .bool _ _

/-- an element name: its array's name and its digit -/
def elemO (s : ByteArray) : Option (List UInt8 × UInt8) :=
  if 4 ≤ s.data.toList.length then match s.data.toList.drop (s.data.toList.length - 3) with
    | [x, d, y] => if (y == 93 && x == 91 && decide (48 ≤ d.toNat) && decide (d.toNat < 56) && isName ⟨(s.data.toList.take (s.data.toList.length - 3)).toArray⟩) = true then some (s.data.toList.take (s.data.toList.length - 3), d) else none
    | _ => none
  else none
def elemV (o : Option (List UInt8 × UInt8)) : AV := match o with
  | some (a, d) => .tup [.str ⟨a.toArray⟩, .int .i64 ((d.toNat : Int) - 48), .bool true]
  | none => .tup [.str ⟨#[]⟩, .int .i64 0, .bool false]
theorem name_ne {l : List UInt8} (h : isName ⟨l.toArray⟩ = true) : l ≠ [] ∧ ∀ b ∈ l, b ≠ 91 := by
  have hw : wordB ⟨l.toArray⟩ = true := by
    unfold isName at h
    exact (Bool.and_eq_true_iff.1 (Bool.and_eq_true_iff.1 h).1).1
  unfold wordB at hw
  obtain ⟨h1, h2⟩ := Bool.and_eq_true_iff.1 hw
  refine ⟨?_, ?_⟩
  · intro e; subst e; cases h1
  · intro b hb e
    subst e
    have := List.all_eq_true.1 h2 91 hb
    revert this; decide
/-- three bytes behind the first ones -/
theorem three {l : List UInt8} (h : 3 ≤ l.length) : ∃ a x d y, l = a ++ [x, d, y] := by
  refine ⟨l.take (l.length - 3), ?_⟩
  have h1 : (l.drop (l.length - 3)).length = 3 := by simp; omega
  match hm : l.drop (l.length - 3), h1 with
  | [x, d, y], _ => exact ⟨x, d, y, by rw [← hm, List.take_append_drop]⟩
theorem elemO_of {a : List UInt8} {x d y : UInt8} (ha : a ≠ []) : elemO ⟨(a ++ [x, d, y]).toArray⟩ = if (y == 93 && x == 91 && decide (48 ≤ d.toNat) && decide (d.toNat < 56) && isName ⟨a.toArray⟩) = true then some (a, d) else none := by
  have hl : 0 < a.length := List.length_pos_iff.2 ha
  unfold elemO
  simp only
  rw [if_pos (by simp; omega)]
  have e : (a ++ [x, d, y]).length - 3 = a.length := by simp
  rw [e, List.drop_left, List.take_left]
/-- as the program finds it -/
theorem elem_cut (s : ByteArray) : elemO s = if ((Lib.cut s.data.toList [91]).2.2 && isName ⟨(Lib.cut s.data.toList [91]).1.toArray⟩) = true then match (Lib.cut s.data.toList [91]).2.1 with
    | [d, y] => if (y == 93 && decide (48 ≤ d.toNat) && decide (d.toNat < 56)) = true then some ((Lib.cut s.data.toList [91]).1, d) else none
    | _ => none
  else none := by
  obtain ⟨⟨l⟩⟩ := s
  have hocc : ∀ i, Lib.occAt l [91] i = true ↔ l[i]? = some 91 := by
    intro i
    unfold Lib.occAt
    rcases Nat.lt_or_ge i l.length with h | h
    · rw [List.drop_eq_getElem_cons h, List.getElem?_eq_getElem h]
      simp [List.isPrefixOf]
      exact eq_comm
    · rw [List.drop_eq_nil_of_le h, List.getElem?_eq_none h]; simp [List.isPrefixOf]
  -- an element name of the reference's kind
  have main : ∀ a d, a ≠ [] → isName ⟨a.toArray⟩ = true → l = a ++ [91, d, 93] → Lib.cut l [91] = (a, [d, 93], true) := by
    intro a d ha hn hl
    obtain ⟨_, hne⟩ := name_ne hn
    have hi : Lib.index l [91] = (a.length : Int) := by
      refine Lib.index_first (by rw [hl]; simp) ((hocc _).2 (by rw [hl]; simp)) fun j hj => ?_
      rw [← Bool.not_eq_true, hocc, hl, List.getElem?_append_left hj, List.getElem?_eq_getElem hj]
      intro e
      exact hne _ (List.getElem_mem hj) (Option.some.inj e)
    unfold Lib.cut
    rw [hi, if_pos (by omega), Int.toNat_natCast, hl, List.take_left, ← List.drop_drop, List.drop_left]
    rfl
  show elemO ⟨l.toArray⟩ = _
  rcases hcase : elemO ⟨l.toArray⟩ with _ | ⟨a, d⟩
  · symm
    show (if _ then _ else none) = none
    simp only
    split
    · rename_i hb
      rw [Bool.and_eq_true] at hb
      split
      · rename_i d y hm
        split
        · rename_i hd
          exfalso
          simp only [Bool.and_eq_true, beq_iff_eq, decide_eq_true_eq] at hd
          obtain ⟨⟨rfl, hd1⟩, hd2⟩ := hd
          obtain ⟨ha, _⟩ := name_ne hb.2
          have hc : Lib.cut l [91] = ((Lib.cut l [91]).1, [d, 93], true) := by
            rw [← hm]; have := hb.1; cases hcc : Lib.cut l [91] with
            | mk p q => cases q with
              | mk q1 q2 => rw [hcc] at this; simp at this; subst this; rfl
          have hl : l = (Lib.cut l [91]).1 ++ [91, d, 93] := by
            generalize (Lib.cut l [91]).1 = b at hc
            unfold Lib.cut at hc
            split at hc
            · rename_i h0
              obtain ⟨i, hi⟩ : ∃ i : Nat, Lib.index l [91] = i := ⟨(Lib.index l [91]).toNat, by omega⟩
              rw [hi] at hc
              simp only [Int.toNat_natCast, Prod.mk.injEq, List.length_singleton] at hc
              rcases Lib.index_spec l [91] with ⟨h1, _⟩ | ⟨j, h1, _, h3, _⟩
              · omega
              · have hj : i = j := by omega
                subst hj
                have h4 := (hocc i).1 h3
                have h5 : i < l.length := (List.getElem?_eq_some_iff.1 h4).1
                have h6 : l[i] = 91 := by rw [List.getElem?_eq_getElem h5] at h4; exact Option.some.inj h4
                rw [← hc.1]
                calc l = l.take i ++ l.drop i := (List.take_append_drop i l).symm
                  _ = l.take i ++ (l[i] :: l.drop (i + 1)) := by rw [List.drop_eq_getElem_cons h5]
                  _ = l.take i ++ [91, d, 93] := by rw [h6, hc.2.1]
            · simp at hc
          have := elemO_of (x := 91) (d := d) (y := 93) ha
          rw [← hl, hcase, if_pos (by simp [hb.2, hd1, hd2])] at this
          cases this
        · rfl
      · rfl
    · rfl
  · have h4 : 4 ≤ l.length := by
      unfold elemO at hcase
      simp only at hcase
      split at hcase
      · assumption
      · cases hcase
    obtain ⟨b, x, d', y, rfl⟩ := three (show 3 ≤ l.length by omega)
    have hb : b ≠ [] := by intro e; subst e; simp at h4
    rw [elemO_of hb] at hcase
    split at hcase
    · rename_i hc
      cases hcase
      simp only [Bool.and_eq_true, beq_iff_eq, decide_eq_true_eq] at hc
      obtain ⟨⟨⟨⟨rfl, rfl⟩, h1⟩, h2⟩, h3⟩ := hc
      simp only
      rw [main a d hb h3 rfl]
      simp [h3, h1, h2]
    · cases hcase
end Go.Proofs.YtocilianjfhifaaGreatDoor.Cov
/- Element names and variable names: the contracts; no condition but the variables that are laid. -/
set_option linter.unusedSimpArgs false
set_option maxRecDepth 8000
namespace Go.Proofs.YtocilianjfhifaaGreatDoor.Cov
open Go Go.Proofs Go.Proofs.YtocilianjfhifaaGreatDoor.Sm Go.Proofs.YtocilianjfhifaaGreatDoor.Bins Go.RowKit

theorem cut_len (l : List UInt8) : (Lib.cut l [91]).1.length ≤ l.length := by
  unfold Lib.cut
  split
  · simp only [List.length_take]; exact Nat.min_le_right _ _
  · exact Nat.le_refl _
theorem ixl {l : List UInt8} {k : Nat} {b : UInt8} {i : Int} (hi : i = (k : Int)) (hb : l[k]? = some b) : aIndex Tryz.prog 9 (.str ⟨l.toArray⟩) (.int .i64 i) = some (.int .u8 b.toNat) := by
  subst hi
  have hk : k < l.length := (List.getElem?_eq_some_iff.1 hb).1
  have := ix9 ⟨l.toArray⟩ k .i64 hk
  rw [this]
  have h2 : (⟨l.toArray⟩ : ByteArray)[k]'hk = l[k] := rfl
  rw [h2]
  rw [List.getElem?_eq_getElem hk] at hb
  rw [Option.some.inj hb]
theorem szl (l : List UInt8) : (⟨l.toArray⟩ : ByteArray).size = l.length := rfl
theorem wrap_u8 {n : Int} (h0 : 0 ≤ n) (h1 : n < 256) : IntKind.u8.wrap n = n := by
  unfold IntKind.wrap; simp [IntKind.bits, IntKind.signed]; omega
theorem element_prog (G : Nat → AV) (hG : GOk G) (s : ByteArray) (h : Hp) (hl : s.size ≤ 1048576) : PCall (En G) 259 [.str s] h (elemV (elemO s)) := by
  refine acalls_of (H := Hint.none) (enM G) Tryz.func259 rfl (by kernel_rfl) (by kernel_rfl) (Nat.le_of_ble_eq_true (by kernel_rfl)) ?_
  show awp _ _ _ _ _ (endQ _ [.tmp 2, .tmp 3, .tmp 4] _)
  simp -implicitDefEqProofs only [awp_seq, awp_reg, seqQ_n, WW_one, WW_nil, none_md, none_fz, frz_nil, ownOp, wc_app, wcont_s, upd_app, ev_tmp, ev_const, ev_func, av_int, av_bool, av_str, x_move, x_assign, X1_call, callA_fn, frameOf_zero, List.map_cons, List.map_nil, List.append_nil, ↓reduceIte, Nat.reduceEqDiff, Option.getD_some, Bool.not_false, enP]
  refine (cut_prog G hG s h hl).use ?_
  have he := elem_cut s
  have hal := cut_len s.data.toList
  unfold cutV
  generalize Lib.cut s.data.toList [91] = c at he hal ⊢
  obtain ⟨a, b, f⟩ := c
  have hal2 : a.length ≤ s.size := by simpa using hal
  simp -implicitDefEqProofs only [List.getElem?_cons_zero, List.getElem?_cons_succ, awp_seq, awp_reg, seqQ_n, WW_one, WW_nil, WW_guardE, GX_some, gdstO, none_md, none_fz, frz_nil, ownOp, wc_app, wcont_s, upd_app, ev_tmp, x_move, x_assign, x_un, x_extract, ext_tup, holdsO_ofO, un_not, ↓reduceIte, Nat.reduceEqDiff, Option.getD_some, Bool.not_false]
  cases f
  · simp -implicitDefEqProofs only [awp_seq, awp_reg, awp_ret, awp_cond, seqQ_n, seqQ_r, end_r3, cond_t, WW_one, WW_nil, WW_guardE, GX_some, gdstO, G1_ft, none_md, none_fz, frz_nil, ownOp, wc_app, wcont_s, upd_app, aput, ev_tmp, ev_const, av_int, av_bool, av_str, x_move, x_assign, x_pick, pick_t, ↓reduceIte, Nat.reduceEqDiff, Option.getD_some, Bool.not_false]
    exact ⟨by rw [he]; rfl, trivial⟩
  simp -implicitDefEqProofs only [WW_guardE, GX_some, gdstO, G1_ff, none_md, none_fz, frz_nil, ownOp, wc_app, wcont_s, upd_app, ev_tmp, ev_func, x_move, X1_call, callA_fn, List.map_cons, List.map_nil, List.append_nil, ↓reduceIte, Nat.reduceEqDiff, Option.getD_some, Bool.not_true, Bool.not_false]
  refine (isName_prog G hG.kw ⟨a.toArray⟩ h (by rw [szl]; omega)).use ?_
  simp -implicitDefEqProofs only [WW_one, WW_guardE, GX_some, gdstO, G1_ff, none_md, none_fz, frz_nil, ownOp, wc_app, wcont_s, upd_app, ev_tmp, ev_const, av_bool, x_move, x_pick, pick_f, x_un, holdsO_ofO, un_not, ↓reduceIte, Nat.reduceEqDiff, Option.getD_some, Bool.not_false]
  cases hn : isName ⟨a.toArray⟩
  · simp -implicitDefEqProofs only [awp_seq, awp_reg, awp_ret, awp_cond, seqQ_n, seqQ_r, end_r3, cond_t, WW_one, WW_nil, WW_guardE, GX_some, gdstO, G1_ft, none_md, none_fz, frz_nil, ownOp, wc_app, wcont_s, upd_app, aput, ev_tmp, ev_const, av_int, av_bool, av_str, x_move, x_assign, x_pick, pick_t, ↓reduceIte, Nat.reduceEqDiff, Option.getD_some, Bool.not_false]
    exact ⟨by rw [he]; simp [hn]; rfl, trivial⟩
  simp -implicitDefEqProofs only [WW_one, WW_guardE, GX_some, gdstO, G1_ff, none_md, none_fz, frz_nil, ownOp, wc_app, wcont_s, upd_app, ev_tmp, ev_const, av_int, av_bool, x_move, x_pick, pick_f, x_bin, x_len, holdsO_ofO, bin_neq, ↓reduceIte, Nat.reduceEqDiff, Option.getD_some, Bool.not_true, Bool.not_false, enP, ln9, szl]
  refine G1_of (fun hb => ?_) (fun hb => ?_)
  · simp -implicitDefEqProofs only [awp_seq, awp_reg, awp_ret, awp_cond, seqQ_n, seqQ_r, end_r3, cond_t, WW_one, WW_nil, WW_guardE, GX_some, gdstO, G1_ft, none_md, none_fz, frz_nil, ownOp, wc_app, wcont_s, upd_app, aput, ev_tmp, ev_const, av_int, av_bool, av_str, x_move, x_assign, x_pick, pick_t, ↓reduceIte, Nat.reduceEqDiff, Option.getD_some, Bool.not_false, hb]
    have hne : ∀ d y, b ≠ [d, y] := by
      intro d y e; subst e; simp at hb
    have : elemO s = none := by
      rw [he]; split
      · split
        · rename_i hm; exact absurd hm (hne _ _)
        · rfl
      · rfl
    exact ⟨by rw [this]; rfl, trivial⟩
  have h2 : b.length = 2 := by simp at hb; omega
  match b, h2 with
  | [d, y], _ =>
    have i1 : aIndex Tryz.prog 9 (.str ⟨[d, y].toArray⟩) (.int .i64 1) = some (.int .u8 y.toNat) := ixl (k := 1) rfl rfl
    have i0 : aIndex Tryz.prog 9 (.str ⟨[d, y].toArray⟩) (.int .i64 0) = some (.int .u8 d.toNat) := ixl (k := 0) rfl rfl
    have he2 : elemO s = if (y == 93 && decide (48 ≤ d.toNat) && decide (d.toNat < 56)) = true then some (a, d) else none := by
      rw [he]; simp [hn]
    clear he
    simp -implicitDefEqProofs only [WW_one, WW_guardE, GX_some, gdstO, G1_ff, none_md, none_fz, frz_nil, ownOp, wc_app, wcont_s, upd_app, ev_tmp, ev_const, av_int, av_bool, x_move, x_pick, pick_f, x_bin, x_index, holdsO_ofO, bin_neq, ↓reduceIte, Nat.reduceEqDiff, Option.getD_some, Bool.not_false, enP, hb, i1, i0]
    refine G1_of (fun hc => ?_) (fun hc => ?_)
    · simp -implicitDefEqProofs only [awp_seq, awp_reg, awp_ret, awp_cond, seqQ_n, seqQ_r, end_r3, cond_t, WW_one, WW_nil, WW_guardE, GX_some, gdstO, G1_ft, none_md, none_fz, frz_nil, ownOp, wc_app, wcont_s, upd_app, aput, ev_tmp, ev_const, av_int, av_bool, av_str, x_move, x_assign, x_pick, pick_t, ↓reduceIte, Nat.reduceEqDiff, Option.getD_some, Bool.not_false, hc]
      have hy : (y == 93) = false := by
        rw [← Bool.not_eq_true]; intro e; rw [beq_iff_eq] at e; subst e; simp at hc
      exact ⟨by rw [he2, hy]; rfl, trivial⟩
    have hy : (y == 93) = true := by
      rw [beq_iff_eq, ← UInt8.toNat_inj]
      simp at hc; show y.toNat = 93; omega
    simp -implicitDefEqProofs only [WW_one, WW_guardE, GX_some, gdstO, G1_ff, none_md, none_fz, frz_nil, ownOp, wc_app, wcont_s, upd_app, ev_tmp, ev_const, av_int, av_bool, x_move, x_pick, pick_f, x_bin, x_index, holdsO_ofO, bin_lss, ↓reduceIte, Nat.reduceEqDiff, Option.getD_some, Bool.not_false, enP, hc, i0]
    refine G1_of (fun hd => ?_) (fun hd => ?_)
    · simp -implicitDefEqProofs only [awp_seq, awp_reg, awp_ret, awp_cond, seqQ_n, seqQ_r, end_r3, cond_t, WW_one, WW_nil, WW_guardE, GX_some, gdstO, G1_ft, none_md, none_fz, frz_nil, ownOp, wc_app, wcont_s, upd_app, aput, ev_tmp, ev_const, av_int, av_bool, av_str, x_assign, x_pick, pick_t, ↓reduceIte, Nat.reduceEqDiff, Option.getD_some, Bool.not_false, hd]
      have : decide (48 ≤ d.toNat) = false := by simp at hd ⊢; omega
      exact ⟨by rw [he2, this]; simp; rfl, trivial⟩
    have hd1 : 48 ≤ d.toNat := by simp at hd; omega
    simp -implicitDefEqProofs only [awp_cond, seqQ_n, WW_one, WW_nil, WW_guardE, GX_some, gdstO, G1_ff, none_md, none_fz, frz_nil, ownOp, wc_app, wcont_s, upd_app, ev_tmp, ev_const, av_int, av_bool, x_move, x_pick, pick_f, x_bin, x_index, holdsO_ofO, bin_geq, ↓reduceIte, Nat.reduceEqDiff, Option.getD_some, Bool.not_false, enP, hd, i0]
    refine cond_of (fun hf => ?_) (fun hf => ?_)
    · simp -implicitDefEqProofs only [awp_seq, awp_reg, awp_ret, seqQ_n, seqQ_r, end_r3, WW_one, WW_nil, none_md, none_fz, frz_nil, ownOp, wc_app, wcont_s, upd_app, ev_const, av_int, av_bool, av_str, x_assign, ↓reduceIte, Nat.reduceEqDiff, Option.getD_some, Bool.not_false]
      have : decide (d.toNat < 56) = false := by simp at hf ⊢; omega
      exact ⟨by rw [he2, this]; simp; rfl, trivial⟩
    have hd2 : d.toNat < 56 := by simp at hf; omega
    simp -implicitDefEqProofs only [awp_seq, awp_skip, seqQ_n]
    refine awp_draw (by kernel_rfl) ?_
    simp -implicitDefEqProofs only [YO_f, dc_app, dcont_s, DD_nil, DD_one, y_move, y_assign, y_bin, y_conv, y_index, awp_ret, seqQ_n, end_r3, none_md, upd_app, ev_tmp, ev_const, av_int, av_bool, x_bin, x_conv, x_index, holdsO_ofO, bin_sub, ↓reduceIte, Nat.reduceEqDiff, Nat.reduceAdd, Option.getD_some, enP, cv5_3, i0, wrap_u8 (n := (d.toNat : Int) - 48) (by omega) (by omega), wrap_i64 (n := (d.toNat : Int) - 48) (by omega) (by omega)]
    exact ⟨by rw [he2]; simp [hy, hd1, hd2]; rfl, trivial⟩

theorem sl_str {s : ByteArray} {u : Nat} {h : Hp} (hu : u ≤ s.size) : aSlice Tryz.prog h 9 (.str s) none (some (.int .i64 (u : Int))) none = some (.str (s.extract 0 u)) := by
  have : Tryz.prog.underlying 9 = some .string := by kernel_rfl
  simp [aSlice, this, boundA, hu]
theorem ext_app (a b : List UInt8) : (⟨(a ++ b).toArray⟩ : ByteArray).extract 0 a.length = ⟨a.toArray⟩ := by
  ext1
  simp
set_option maxHeartbeats 1000000 in
theorem split_ref (G : Nat → AV) (s : ByteArray) (h : Hp) (hl : s.size ≤ 1099511627776) : PCall (En G) 289 [.str s] h (elemV (elemO s)) := by
  refine acalls_of (H := Hint.none) (enM G) Tryz.func289 rfl (by kernel_rfl) (by kernel_rfl) (Nat.le_of_ble_eq_true (by kernel_rfl)) ?_
  show awp _ _ _ _ _ (endQ _ [.tmp 2, .tmp 3, .tmp 4] _)
  obtain ⟨⟨l⟩⟩ := s
  rw [szl] at hl
  rcases Nat.lt_or_ge l.length 4 with h4 | h4
  · have hd : decide ((l.length : Int) < 4) = true := by simp; omega
    simp -implicitDefEqProofs only [awp_seq, awp_reg, awp_ret, awp_cond, seqQ_n, seqQ_r, end_r3, cond_t, WW_one, WW_nil, WW_guardE, GX_some, gdstO, G1_ft, none_md, none_fz, frz_nil, ownOp, wc_app, wcont_s, upd_app, aput, ev_tmp, ev_const, av_int, av_bool, av_str, x_move, x_assign, x_pick, pick_t, x_bin, x_len, holdsO_ofO, bin_lss, frameOf_zero, ↓reduceIte, Nat.reduceEqDiff, Option.getD_some, Bool.not_false, enP, ln9, szl, hd]
    have : elemO ⟨l.toArray⟩ = none := by
      unfold elemO; rw [if_neg]; simp; omega
    exact ⟨by rw [this]; rfl, trivial⟩
  obtain ⟨b, x, d, y, rfl⟩ := three (show 3 ≤ l.length by omega)
  have hlen : (b ++ [x, d, y]).length = b.length + 3 := by simp
  rw [hlen] at hl h4
  have hbl : 0 < b.length := by omega
  have hb : b ≠ [] := List.length_pos_iff.1 hbl
  have he := elemO_of (x := x) (d := d) (y := y) hb
  generalize hn : isName ⟨b.toArray⟩ = nm at he
  have i1 : aIndex Tryz.prog 9 (.str ⟨(b ++ [x, d, y]).toArray⟩) (.int .i64 ((b.length : Int) + 2)) = some (.int .u8 y.toNat) := ixl (k := b.length + 2) (by omega) (by simp)
  have i2 : aIndex Tryz.prog 9 (.str ⟨(b ++ [x, d, y]).toArray⟩) (.int .i64 ((b.length : Int) + 1)) = some (.int .u8 d.toNat) := ixl (k := b.length + 1) (by omega) (by simp)
  have i3 : aIndex Tryz.prog 9 (.str ⟨(b ++ [x, d, y]).toArray⟩) (.int .i64 (b.length : Int)) = some (.int .u8 x.toNat) := ixl (k := b.length) rfl (by simp)
  have i4 := sl_str (s := ⟨(b ++ [x, d, y]).toArray⟩) (u := b.length) (h := h) (by rw [szl]; omega)
  rw [ext_app] at i4
  have hsz : (⟨(b ++ [x, d, y]).toArray⟩ : ByteArray).size = b.length + 3 := by rw [szl, hlen]
  generalize (⟨(b ++ [x, d, y]).toArray⟩ : ByteArray) = s at *
  have w1 : IntKind.i64.wrap (((b.length + 3 : Nat) : Int) - 1) = (b.length : Int) + 2 := by rw [wrap_i64 (by omega) (by omega)]; omega
  have w2 : IntKind.i64.wrap (((b.length + 3 : Nat) : Int) - 2) = (b.length : Int) + 1 := by rw [wrap_i64 (by omega) (by omega)]; omega
  have w3 : IntKind.i64.wrap (((b.length + 3 : Nat) : Int) - 3) = (b.length : Int) := by rw [wrap_i64 (by omega) (by omega)]; omega
  have hd8 : d.toNat < 256 := d.toNat_lt
  have w4 : IntKind.i64.wrap (d.toNat : Int) = (d.toNat : Int) := wrap_i64 (by omega) (by omega)
  have w5 : IntKind.i64.wrap ((d.toNat : Int) - 48) = (d.toNat : Int) - 48 := wrap_i64 (by omega) (by omega)
  have ha : decide (((b.length + 3 : Nat) : Int) < 4) = false := by simp; omega
  simp -implicitDefEqProofs only [awp_seq, awp_reg, seqQ_n, WW_one, WW_nil, WW_guardE, GX_some, gdstO, G1_ff, none_md, none_fz, frz_nil, ownOp, wc_app, wcont_s, upd_app, ev_tmp, ev_const, av_int, av_bool, av_str, x_move, x_assign, x_pick, pick_f, x_bin, x_index, x_len, holdsO_ofO, bin_sub, bin_neq, bin_lss, frameOf_zero, ↓reduceIte, Nat.reduceEqDiff, Option.getD_some, Bool.not_false, enP, ln9, hsz, ha, w1, w2, w3, i1, i2, i3, i4]
  refine G1_of (fun hc => ?_) (fun hc => ?_)
  · simp -implicitDefEqProofs only [awp_seq, awp_reg, awp_ret, awp_cond, seqQ_n, seqQ_r, end_r3, cond_t, WW_one, WW_nil, WW_guardE, GX_some, gdstO, G1_ft, none_md, none_fz, frz_nil, ownOp, wc_app, wcont_s, upd_app, aput, ev_tmp, ev_const, av_int, av_bool, av_str, x_assign, x_pick, pick_t, ↓reduceIte, Nat.reduceEqDiff, Option.getD_some, Bool.not_false, hc]
    have hy : (y == 93) = false := by
      rw [← Bool.not_eq_true]; intro e; rw [beq_iff_eq] at e; subst e; simp at hc
    exact ⟨by rw [he, hy]; simp; rfl, trivial⟩
  have hy : (y == 93) = true := by
    rw [beq_iff_eq, ← UInt8.toNat_inj]
    simp at hc; show y.toNat = 93; omega
  simp -implicitDefEqProofs only [awp_cond, seqQ_n, WW_one, WW_nil, WW_guardE, GX_some, gdstO, G1_ff, none_md, none_fz, frz_nil, ownOp, wc_app, wcont_s, upd_app, ev_tmp, ev_const, av_int, av_bool, x_move, x_pick, pick_f, x_bin, x_index, x_len, holdsO_ofO, bin_sub, bin_neq, frameOf_zero, ↓reduceIte, Nat.reduceEqDiff, Option.getD_some, Bool.not_false, enP, ln9, hsz, hc, w1, w2, w3, i1, i2, i3, i4]
  refine cond_of (fun hd => ?_) (fun hd => ?_)
  · simp -implicitDefEqProofs only [awp_seq, awp_reg, awp_ret, seqQ_n, seqQ_r, end_r3, WW_one, WW_nil, none_md, none_fz, frz_nil, ownOp, wc_app, wcont_s, upd_app, ev_const, av_int, av_bool, av_str, x_assign, ↓reduceIte, Nat.reduceEqDiff, Option.getD_some, Bool.not_false]
    have hx : (x == 91) = false := by
      rw [← Bool.not_eq_true]; intro e; rw [beq_iff_eq] at e; subst e; simp at hd
    exact ⟨by rw [he, hx]; simp; rfl, trivial⟩
  have hx : (x == 91) = true := by
    rw [beq_iff_eq, ← UInt8.toNat_inj]
    simp at hd; show x.toNat = 91; omega
  simp -implicitDefEqProofs only [Option.map_some, Option.map_none, awp_seq, awp_reg, awp_skip, seqQ_n, WW_one, WW_nil, WW_guardE, GX_some, gdstO, none_md, none_fz, frz_nil, ownOp, wc_app, wcont_s, upd_app, ev_tmp, ev_const, av_int, x_move, x_assign, x_bin, x_conv, x_slice, x_index, x_len, holdsO_ofO, bin_sub, bin_lss, frameOf_zero, ↓reduceIte, Nat.reduceEqDiff, Option.getD_some, Bool.not_false, enP, ln9, cv5_3, hsz, w1, w2, w3, i1, i2, i3, i4, w4, w5]
  refine G1_of (fun hf => ?_) (fun hf => ?_)
  · simp -implicitDefEqProofs only [awp_seq, awp_reg, awp_ret, awp_cond, seqQ_n, seqQ_r, end_r3, cond_t, WW_one, WW_nil, WW_guardE, GX_some, gdstO, G1_ft, none_md, none_fz, frz_nil, ownOp, wc_app, wcont_s, upd_app, aput, ev_tmp, ev_const, av_int, av_bool, av_str, x_move, x_assign, x_pick, pick_t, ↓reduceIte, Nat.reduceEqDiff, Option.getD_some, Bool.not_false, hf]
    have : decide (48 ≤ d.toNat) = false := by simp at hf ⊢; omega
    exact ⟨by rw [he, this]; simp; rfl, trivial⟩
  have hd1 : 48 ≤ d.toNat := by simp at hf; omega
  simp -implicitDefEqProofs only [WW_one, WW_guardE, GX_some, gdstO, G1_ff, none_md, none_fz, frz_nil, ownOp, wc_app, wcont_s, upd_app, ev_tmp, ev_const, av_int, av_bool, x_move, x_pick, pick_f, x_bin, holdsO_ofO, bin_geq, ↓reduceIte, Nat.reduceEqDiff, Option.getD_some, Bool.not_false, enP, hf]
  refine G1_of (fun hf => ?_) (fun hf => ?_)
  · simp -implicitDefEqProofs only [awp_seq, awp_reg, awp_ret, awp_cond, seqQ_n, seqQ_r, end_r3, cond_t, WW_one, WW_nil, WW_guardE, GX_some, gdstO, G1_ft, none_md, none_fz, frz_nil, ownOp, wc_app, wcont_s, upd_app, aput, ev_tmp, ev_const, av_int, av_bool, av_str, x_assign, x_pick, pick_t, ↓reduceIte, Nat.reduceEqDiff, Option.getD_some, Bool.not_false, hf]
    have : decide (d.toNat < 56) = false := by simp at hf ⊢; omega
    exact ⟨by rw [he, this]; simp; rfl, trivial⟩
  have hd2 : d.toNat < 56 := by simp at hf; omega
  simp -implicitDefEqProofs only [WW_guardE, GX_some, gdstO, G1_ff, none_md, none_fz, frz_nil, ownOp, wc_app, wcont_s, upd_app, ev_tmp, ev_func, x_move, X1_call, callA_fn, List.map_cons, List.map_nil, List.append_nil, ↓reduceIte, Nat.reduceEqDiff, Option.getD_some, Bool.not_false, hf]
  refine (isName_ref G ⟨b.toArray⟩ h).use ?_
  simp -implicitDefEqProofs only [awp_cond, seqQ_n, WW_one, WW_nil, WW_guardE, GX_some, gdstO, G1_ff, none_md, none_fz, frz_nil, ownOp, wc_app, wcont_s, upd_app, ev_tmp, ev_const, av_bool, x_pick, pick_f, x_un, holdsO_ofO, un_not, ↓reduceIte, Nat.reduceEqDiff, Option.getD_some, Bool.not_false, hn]
  cases nm
  · simp -implicitDefEqProofs only [awp_seq, awp_reg, awp_ret, seqQ_n, seqQ_r, end_r3, cond_t, WW_one, WW_nil, none_md, none_fz, frz_nil, ownOp, wc_app, wcont_s, upd_app, ev_const, av_int, av_bool, av_str, x_assign, ↓reduceIte, Nat.reduceEqDiff, Option.getD_some, Bool.not_false]
    exact ⟨by rw [he]; simp; rfl, trivial⟩
  · simp -implicitDefEqProofs only [awp_seq, awp_reg, awp_skip, awp_ret, seqQ_n, end_r3, cond_f, WW_one, WW_nil, none_md, none_fz, frz_nil, ownOp, wc_app, wcont_s, upd_app, ev_tmp, ev_const, av_bool, x_move, x_assign, ↓reduceIte, Nat.reduceEqDiff, Option.getD_some, Bool.not_true, Bool.not_false]
    exact ⟨by rw [he]; simp [hy, hx, hd1, hd2]; rfl, trivial⟩

/-- a variable's name -/
def isVarB (s : ByteArray) : Bool := (elemO s).isSome || isName s
theorem elemV_some (o : Option (List UInt8 × UInt8)) : ∃ a n, elemV o = .tup [.str a, .int .i64 n, .bool o.isSome] := by
  cases o with
  | none => exact ⟨_, _, rfl⟩
  | some x => exact ⟨_, _, rfl⟩
theorem isVar_prog (G : Nat → AV) (hG : GOk G) (s : ByteArray) (h : Hp) (hl : s.size ≤ 1048576) : PCall (En G) 232 [.str s] h (.bool (isVarB s)) := by
  refine acalls_of (H := Hint.none) (enM G) Tryz.func232 rfl (by kernel_rfl) (by kernel_rfl) (Nat.le_of_ble_eq_true (by kernel_rfl)) ?_
  show awp _ _ _ _ _ (endQ _ [.tmp 2] _)
  simp -implicitDefEqProofs only [awp_seq, awp_reg, seqQ_n, WW_one, WW_nil, none_md, none_fz, frz_nil, ownOp, wc_app, wcont_s, upd_app, ev_tmp, ev_const, ev_func, av_bool, x_move, x_assign, X1_call, callA_fn, frameOf_zero, List.map_cons, List.map_nil, List.append_nil, ↓reduceIte, Nat.reduceEqDiff, Option.getD_some, Bool.not_false, enP]
  refine (element_prog G hG s h hl).use ?_
  obtain ⟨a, n, e⟩ := elemV_some (elemO s)
  rw [e]
  simp -implicitDefEqProofs only [List.getElem?_cons_zero, List.getElem?_cons_succ, awp_seq, awp_reg, seqQ_n, WW_one, WW_nil, WW_guardE, GX_some, gdstO, none_md, none_fz, frz_nil, ownOp, wc_app, wcont_s, upd_app, ev_tmp, x_move, x_assign, x_extract, ext_tup, holdsO_ofO, ↓reduceIte, Nat.reduceEqDiff, Option.getD_some, Bool.not_false]
  cases hs : (elemO s).isSome
  · simp -implicitDefEqProofs only [WW_guardE, GX_some, gdstO, G1_ff, none_md, none_fz, frz_nil, ownOp, wc_app, wcont_s, upd_app, ev_tmp, ev_func, x_move, X1_call, callA_fn, frameOf_zero, List.map_cons, List.map_nil, List.append_nil, ↓reduceIte, Nat.reduceEqDiff, Option.getD_some, Bool.not_false]
    refine (isName_prog G hG.kw s h (by omega)).use ?_
    simp -implicitDefEqProofs only [awp_ret, seqQ_n, end_r, WW_one, WW_nil, none_md, none_fz, frz_nil, ownOp, wc_app, wcont_s, upd_app, ev_tmp, ev_const, av_bool, x_assign, x_pick, pick_f, ↓reduceIte, Nat.reduceEqDiff, Option.getD_some, Bool.not_false]
    exact ⟨by unfold isVarB; rw [hs]; rfl, trivial⟩
  · simp -implicitDefEqProofs only [awp_ret, seqQ_n, end_r, WW_one, WW_nil, WW_guardE, GX_some, gdstO, G1_ft, none_md, none_fz, frz_nil, ownOp, wc_app, wcont_s, upd_app, aput, ev_tmp, ev_const, av_bool, x_assign, x_pick, pick_t, ↓reduceIte, Nat.reduceEqDiff, Option.getD_some, Bool.not_false]
    exact ⟨by unfold isVarB; rw [hs]; rfl, trivial⟩
theorem isVar_ref (G : Nat → AV) (s : ByteArray) (h : Hp) (hl : s.size ≤ 1048576) : PCall (En G) 255 [.str s] h (.bool (isVarB s)) := by
  refine acalls_of (H := Hint.none) (enM G) Tryz.func255 rfl (by kernel_rfl) (by kernel_rfl) (Nat.le_of_ble_eq_true (by kernel_rfl)) ?_
  show awp _ _ _ _ _ (endQ _ [.tmp 2] _)
  simp -implicitDefEqProofs only [awp_seq, awp_reg, seqQ_n, WW_one, WW_nil, none_md, none_fz, frz_nil, ownOp, wc_app, wcont_s, upd_app, ev_tmp, ev_const, ev_func, av_bool, x_move, x_assign, X1_call, callA_fn, frameOf_zero, List.map_cons, List.map_nil, List.append_nil, ↓reduceIte, Nat.reduceEqDiff, Option.getD_some, Bool.not_false, enP]
  refine (split_ref G s h (by omega)).use ?_
  obtain ⟨a, n, e⟩ := elemV_some (elemO s)
  rw [e]
  simp -implicitDefEqProofs only [List.getElem?_cons_zero, List.getElem?_cons_succ, awp_seq, awp_reg, seqQ_n, WW_one, WW_nil, WW_guardE, GX_some, gdstO, none_md, none_fz, frz_nil, ownOp, wc_app, wcont_s, upd_app, ev_tmp, x_move, x_assign, x_extract, ext_tup, holdsO_ofO, ↓reduceIte, Nat.reduceEqDiff, Option.getD_some, Bool.not_false]
  cases hs : (elemO s).isSome
  · simp -implicitDefEqProofs only [WW_guardE, GX_some, gdstO, G1_ff, none_md, none_fz, frz_nil, ownOp, wc_app, wcont_s, upd_app, ev_tmp, ev_func, x_move, X1_call, callA_fn, frameOf_zero, List.map_cons, List.map_nil, List.append_nil, ↓reduceIte, Nat.reduceEqDiff, Option.getD_some, Bool.not_false]
    refine (isName_ref G s h).use ?_
    simp -implicitDefEqProofs only [awp_ret, seqQ_n, end_r, WW_one, WW_nil, none_md, none_fz, frz_nil, ownOp, wc_app, wcont_s, upd_app, ev_tmp, ev_const, av_bool, x_assign, x_pick, pick_f, ↓reduceIte, Nat.reduceEqDiff, Option.getD_some, Bool.not_false]
    exact ⟨by unfold isVarB; rw [hs]; rfl, trivial⟩
  · simp -implicitDefEqProofs only [awp_ret, seqQ_n, end_r, WW_one, WW_nil, WW_guardE, GX_some, gdstO, G1_ft, none_md, none_fz, frz_nil, ownOp, wc_app, wcont_s, upd_app, aput, ev_tmp, ev_const, av_bool, x_assign, x_pick, pick_t, ↓reduceIte, Nat.reduceEqDiff, Option.getD_some, Bool.not_false]
    exact ⟨by unfold isVarB; rw [hs]; rfl, trivial⟩
end Go.Proofs.YtocilianjfhifaaGreatDoor.Cov
/- The error of a node alone, on both sides; no condition but the variables that are laid. -/
set_option linter.unusedSimpArgs false
set_option maxRecDepth 8000
namespace Go.Proofs.YtocilianjfhifaaGreatDoor.Cov
open Go Go.Proofs Go.Proofs.YtocilianjfhifaaGreatDoor.Sm Go.Proofs.YtocilianjfhifaaGreatDoor.Bins Go.RowKit

def noName (s : ByteArray) : Bool := s.toList == (⟨#[]⟩ : ByteArray).toList
def badO (e : Ex) : Bool := decide (e.op < 1) || decide (e.op > 25)
def badN (e : Ex) : Bool := ((e.op == 1) && (decide (e.n < 0) || decide (e.n > 65535))) || (!(e.op == 1) && !(e.n == 0))
def badS (e : Ex) : Bool := (!namedB e.op && !noName e.name) || !opsB e.op e.args.length
def badV (e : Ex) : Bool := ((e.op == 2) && !isVarB e.name) || (((e.op == 3) || (e.op == 24)) && !isName e.name)
def nodeE (e : Ex) : Int := if badO e then 1 else if badN e then 1 else if badS e then 1 else if badV e then 7 else 0

theorem node_prog (G : Nat → AV) (hG : GOk G) (e : Ex) (h : Hp) (hl : e.name.size ≤ 1048576) : PCall (En G) 198 [.agg (encE e)] h (.int .i64 (nodeE e)) := by
  refine ACalls.pure0 rfl ?_
  refine acalls_of (H := Hint.none) (enM G) Tryz.func198 rfl (by kernel_rfl) (by kernel_rfl) (Nat.le_of_ble_eq_true (by kernel_rfl)) ?_
  show awp _ _ _ _ _ (endQ _ [.tmp 2] _)
  simp -implicitDefEqProofs only [awp_seq, awp_reg, seqQ_n, WW_one, WW_nil, WW_guardE, GX_some, gdstO, none_md, none_fz, frz_nil, ownOp, wc_app, wcont_s, upd_app, ev_tmp, ev_const, av_int, x_move, x_assign, x_box, x_load, x_bin, x_fieldAddr, holdsO_some, holdsO_ofO, bin_eql, frameOf_zero, ↓reduceIte, Nat.reduceEqDiff, Nat.add_zero, Option.getD_some, Bool.not_false, enP, fa53_0, bxE, load_last ag3, encE0]
  refine G1_mid (fun F H => F 3 = .bool (namedB e.op) ∧ F 1 = .ptr h.length 0 0 ∧ H = h ++ [.live 4 [encE e]]) ?_ ?_
  · cases b2 : (e.op == 2) <;> cases b3 : (e.op == 3)
    all_goals
      simp -implicitDefEqProofs only [WW_one, WW_nil, WW_guardE, GX_some, gdstO, G1_ff, G1_ft, none_md, none_fz, frz_nil, ownOp, wc_app, wcont_s, upd_app, aput, ev_tmp, ev_const, av_int, av_bool, x_move, x_assign, x_pick, pick_t, pick_f, x_load, x_bin, x_fieldAddr, holdsO_ofO, bin_eql, ↓reduceIte, Nat.reduceEqDiff, Nat.add_zero, Option.getD_some, Bool.not_false, enP, fa53_0, b2, b3, load_last ag3, encE0]
      exact ⟨by simp [namedB, b2, b3], trivial, trivial⟩
  rintro F H ⟨f3, f1, rfl⟩
  simp -implicitDefEqProofs only [awp_seq, awp_block, awp_reg, seqQ_n, WW_one, WW_guardE, GX_some, gdstO, none_md, none_fz, frz_nil, ownOp, wc_app, wcont_s, upd_app, ev_tmp, ev_const, av_int, x_move, x_load, x_bin, x_fieldAddr, holdsO_ofO, bin_lss, ↓reduceIte, Nat.add_zero, Option.getD_some, Bool.not_false, enP, fa53_0, f1, f3, load_last ag3, encE0]
  refine G1_mid (fun F H => F 17 = .bool (badO e) ∧ F 3 = .bool (namedB e.op) ∧ F 1 = .ptr h.length 0 0 ∧ H = h ++ [.live 4 [encE e]]) ?_ ?_
  · cases b2 : decide (e.op < 1)
    all_goals
      simp -implicitDefEqProofs only [WW_one, WW_nil, WW_guardE, GX_some, gdstO, G1_ff, G1_ft, none_md, none_fz, frz_nil, ownOp, wc_app, wcont_s, upd_app, aput, ev_tmp, ev_const, av_int, av_bool, x_assign, x_pick, pick_t, pick_f, x_load, x_bin, x_fieldAddr, holdsO_ofO, bin_gtr, ↓reduceIte, Nat.reduceEqDiff, Nat.add_zero, Option.getD_some, Bool.not_false, enP, fa53_0, b2, f1, f3, load_last ag3, encE0]
      exact ⟨by simp [badO, b2], trivial, trivial, trivial⟩
  clear f1 f3
  rintro F H ⟨f17, f3, f1, rfl⟩
  simp -implicitDefEqProofs only [awp_cond, seqQ_n, ev_tmp, f17]
  refine cond_of (fun ho => ?_) (fun ho => ?_)
  · simp -implicitDefEqProofs only [awp_seq, awp_reg, awp_ret, seqQ_n, seqQ_r, blk_r, end_r, WW_one, WW_nil, none_md, none_fz, frz_nil, ownOp, wc_app, wcont_s, upd_app, ev_const, av_int, x_assign, ↓reduceIte, Option.getD_some, Bool.not_false]
    exact ⟨by unfold nodeE; rw [if_pos ho], _, rfl⟩
  simp -implicitDefEqProofs only [awp_seq, awp_reg, WW_one, WW_guardE, GX_some, gdstO, none_md, none_fz, frz_nil, ownOp, wc_app, wcont_s, upd_app, ev_tmp, ev_const, av_int, x_move, x_load, x_bin, x_fieldAddr, holdsO_ofO, bin_eql, ↓reduceIte, Nat.add_zero, Option.getD_some, Bool.not_false, enP, fa53_0, f1, f3, load_last ag3, encE0, encE1]
  refine G1_mid (fun F H => F 26 = .bool (badN e) ∧ F 3 = .bool (namedB e.op) ∧ F 1 = .ptr h.length 0 0 ∧ H = h ++ [.live 4 [encE e]]) ?_ ?_
  · cases b1 : (e.op == 1) <;> cases b2 : decide (e.n < 0) <;> cases b3 : decide (e.n > 65535) <;> cases b4 : (e.n == 0)
    all_goals
      simp -implicitDefEqProofs only [WW_one, WW_nil, WW_guardE, GX_some, gdstO, G1_tt, G1_ff, G1_tf, G1_ft, G1_u, none_md, none_fz, frz_nil, ownOp, wc_app, wcont_s, upd_app, aput, ev_tmp, ev_const, av_int, av_bool, x_move, x_assign, x_pick, pick_t, pick_f, x_load, x_bin, x_fieldAddr, holdsO_ofO, bin_neq, bin_lss, bin_gtr, ↓reduceIte, Nat.reduceEqDiff, Nat.add_zero, Nat.zero_add, Option.getD_some, Bool.not_true, Bool.not_false, enP, fa53_0, fa53_1, bne, b1, b2, b3, b4, f1, f3, load_last ag3, encE0, encE1]
      exact ⟨by simp [badN, b1, b2, b3, b4], trivial, trivial, trivial⟩
  clear f1 f3 f17
  rintro F H ⟨f26, f3, f1, rfl⟩
  simp -implicitDefEqProofs only [awp_cond, seqQ_n, ev_tmp, f26]
  refine cond_of (fun hn => ?_) (fun hn => ?_)
  · simp -implicitDefEqProofs only [awp_seq, awp_reg, awp_ret, seqQ_n, seqQ_r, blk_r, end_r, WW_one, WW_nil, none_md, none_fz, frz_nil, ownOp, wc_app, wcont_s, upd_app, ev_const, av_int, x_assign, ↓reduceIte, Option.getD_some, Bool.not_false]
    exact ⟨by unfold nodeE; rw [if_neg (by simp [ho]), if_pos hn], _, rfl⟩
  simp -implicitDefEqProofs only [awp_seq, awp_reg, WW_one, WW_guardE, GX_some, gdstO, none_md, none_fz, frz_nil, ownOp, wc_app, wcont_s, upd_app, ev_tmp, x_move, x_un, holdsO_ofO, un_not, ↓reduceIte, Option.getD_some, Bool.not_false, f1, f3, load_last ag9, encE2]
  refine G1_mid (fun F H => F 50 = .bool (badS e) ∧ F 3 = .bool (namedB e.op) ∧ F 1 = .ptr h.length 0 0 ∧ H = h ++ [.live 4 [encE e]]) ?_ ?_
  · cases bm : namedB e.op <;> cases b5 : noName e.name
    all_goals
      have b6 := b5
      unfold noName at b6
      simp -implicitDefEqProofs only [WW_one, WW_nil, WW_guardE, GX_some, gdstO, G1_tt, G1_ff, G1_tf, G1_ft, none_md, none_fz, frz_nil, ownOp, wc_app, wcont_s, upd_app, aput, ev_tmp, ev_const, ev_func, av_bool, av_str, x_move, x_assign, x_pick, pick_t, pick_f, x_load, x_bin, x_fieldAddr, X1_call, callA_fn, holdsO_ofO, bin_sneq, List.map_cons, List.map_nil, List.append_nil, ↓reduceIte, Nat.reduceEqDiff, Nat.zero_add, Option.getD_some, Bool.not_true, Bool.not_false, enP, fa53_2, bne, bm, b6, f1, f3, load_last ag9, encE2, ldE]
    · exact ⟨by simp [badS, bm, b5], trivial, trivial, trivial⟩
    all_goals
      refine (operands_prog G e _).use ?_
      simp -implicitDefEqProofs only [WW_one, WW_nil, WW_guardE, GX_some, gdstO, G1_ff, none_md, none_fz, frz_nil, ownOp, wc_app, wcont_s, upd_app, ev_tmp, ev_const, av_bool, x_assign, x_pick, pick_f, x_un, holdsO_ofO, un_not, ↓reduceIte, Nat.reduceEqDiff, Option.getD_some, Bool.not_false, bne, bm, f1, f3]
      exact ⟨by simp [badS, bm, b5], trivial, trivial, trivial⟩
  clear f1 f3 f26
  rintro F H ⟨f50, f3, f1, rfl⟩
  simp -implicitDefEqProofs only [awp_cond, seqQ_n, ev_tmp, f50]
  refine cond_of (fun hs => ?_) (fun hs => ?_)
  · simp -implicitDefEqProofs only [awp_seq, awp_reg, awp_ret, seqQ_n, seqQ_r, blk_r, end_r, WW_one, WW_nil, none_md, none_fz, frz_nil, ownOp, wc_app, wcont_s, upd_app, ev_const, av_int, x_assign, ↓reduceIte, Option.getD_some, Bool.not_false]
    exact ⟨by unfold nodeE; rw [if_neg (by simp [ho]), if_neg (by simp [hn]), if_pos hs], _, rfl⟩
  simp -implicitDefEqProofs only [awp_seq, awp_reg, WW_one, WW_guardE, GX_some, gdstO, none_md, none_fz, frz_nil, ownOp, wc_app, wcont_s, upd_app, ev_tmp, ev_const, av_int, x_move, x_load, x_bin, x_fieldAddr, holdsO_ofO, bin_eql, ↓reduceIte, Nat.add_zero, Option.getD_some, Bool.not_false, enP, fa53_0, f1, f3, load_last ag9, load_last ag3, encE0, encE2]
  have fin : ∀ b, badV e = b → nodeE e = if b then 7 else 0 := by
    intro b hb
    unfold nodeE; rw [if_neg (by simp [ho]), if_neg (by simp [hn]), if_neg (by simp [hs]), hb]
  cases b2 : (e.op == 2)
  · simp -implicitDefEqProofs only [WW_one, WW_guardE, GX_some, gdstO, G1_ff, G1_tf, none_md, none_fz, frz_nil, ownOp, wc_app, wcont_s, upd_app, aput, ev_tmp, ev_const, av_int, av_bool, x_move, x_pick, pick_f, x_load, x_bin, x_fieldAddr, holdsO_ofO, bin_eql, ↓reduceIte, Nat.reduceEqDiff, Nat.add_zero, Option.getD_some, Bool.not_false, enP, fa53_0, b2, f1, f3, load_last ag9, load_last ag3, encE0, encE2]
    cases b3 : (e.op == 3) <;> cases b4 : (e.op == 24)
    all_goals
      simp -implicitDefEqProofs only [awp_seq, awp_reg, awp_skip, awp_ret, awp_cond, seqQ_n, blk_n, end_r, cond_f, WW_one, WW_nil, WW_guardE, GX_some, gdstO, G1_tt, G1_ff, G1_tf, G1_ft, none_md, none_fz, frz_nil, ownOp, wc_app, wcont_s, upd_app, aput, ev_tmp, ev_const, ev_func, av_int, av_bool, x_move, x_assign, x_pick, pick_t, pick_f, x_load, x_bin, x_fieldAddr, X1_call, callA_fn, holdsO_ofO, bin_eql, List.map_cons, List.map_nil, List.append_nil, ↓reduceIte, Nat.reduceEqDiff, Nat.add_zero, Nat.zero_add, Option.getD_some, Bool.not_false, enP, fa53_0, fa53_2, b3, b4, f1, f3, load_last ag9, load_last ag3, encE0, encE2]
    · exact ⟨by rw [fin false (by simp [badV, b2, b3, b4])]; rfl, _, rfl⟩
    all_goals
      refine (isName_prog G hG.kw e.name _ (by omega)).use ?_
      cases bi : isName e.name
      · simp -implicitDefEqProofs only [awp_seq, awp_reg, awp_ret, awp_cond, seqQ_n, seqQ_r, blk_r, end_r, cond_t, WW_one, WW_nil, WW_guardE, GX_some, gdstO, G1_tt, G1_ff, none_md, none_fz, frz_nil, ownOp, wc_app, wcont_s, upd_app, ev_tmp, ev_const, av_int, av_bool, x_assign, x_pick, pick_t, pick_f, x_un, holdsO_ofO, un_not, ↓reduceIte, Nat.reduceEqDiff, Option.getD_some, Bool.not_false]
        exact ⟨by rw [fin true (by simp [badV, b2, b3, b4, bi])]; rfl, _, rfl⟩
      · simp -implicitDefEqProofs only [awp_seq, awp_reg, awp_skip, awp_ret, awp_cond, seqQ_n, blk_n, end_r, cond_f, WW_one, WW_nil, WW_guardE, GX_some, gdstO, G1_tt, G1_ff, none_md, none_fz, frz_nil, ownOp, wc_app, wcont_s, upd_app, ev_tmp, ev_const, av_int, av_bool, x_assign, x_pick, pick_t, pick_f, x_un, holdsO_ofO, un_not, ↓reduceIte, Nat.reduceEqDiff, Option.getD_some, Bool.not_true, Bool.not_false]
        exact ⟨by rw [fin false (by simp [badV, b2, b3, b4, bi])]; rfl, _, rfl⟩
  · have e2 : e.op = 2 := by simpa using b2
    simp -implicitDefEqProofs only [WW_guardE, GX_some, gdstO, G1_tt, none_md, none_fz, frz_nil, ownOp, wc_app, wcont_s, upd_app, ev_tmp, ev_func, x_load, x_fieldAddr, X1_call, callA_fn, holdsO_ofO, List.map_cons, List.map_nil, List.append_nil, ↓reduceIte, Nat.reduceEqDiff, Nat.zero_add, Option.getD_some, Bool.not_false, enP, fa53_2, b2, f1, f3, load_last ag9, load_last ag3, encE0, encE2]
    refine (isVar_prog G hG e.name _ hl).use ?_
    cases bi : isVarB e.name
    · simp -implicitDefEqProofs only [awp_seq, awp_reg, awp_ret, awp_cond, seqQ_n, seqQ_r, blk_r, end_r, cond_t, WW_one, WW_nil, WW_guardE, GX_some, gdstO, G1_tt, G1_ft, G1_u, none_md, none_fz, frz_nil, ownOp, wc_app, wcont_s, upd_app, aput, ev_tmp, ev_const, av_int, av_bool, x_move, x_assign, x_pick, pick_t, x_un, holdsO_ofO, un_not, ↓reduceIte, Nat.reduceEqDiff, Option.getD_some, Bool.not_false]
      exact ⟨by rw [fin true (by simp [badV, b2, bi])]; rfl, _, rfl⟩
    · simp -implicitDefEqProofs only [awp_seq, awp_reg, awp_skip, awp_ret, awp_cond, seqQ_n, blk_n, end_r, cond_f, WW_one, WW_nil, WW_guardE, GX_some, gdstO, G1_tt, G1_ff, G1_tf, none_md, none_fz, frz_nil, ownOp, wc_app, wcont_s, upd_app, aput, ev_tmp, ev_const, av_int, av_bool, x_move, x_assign, x_pick, pick_t, pick_f, x_load, x_bin, x_un, x_fieldAddr, holdsO_ofO, bin_eql, un_not, ↓reduceIte, Nat.reduceEqDiff, Nat.add_zero, Option.getD_some, Bool.not_true, Bool.not_false, enP, fa53_0, f1, load_last ag3, encE0, e2, Int.reduceBEq]
      exact ⟨by rw [fin false (by simp [badV, e2, bi])]; rfl, _, rfl⟩

def bad1 (e : Ex) : Bool := badO e || decide (e.n < 0) || decide (e.n > 65535) || (!(e.n == 0) && !(e.op == 1)) || (!noName e.name && !namedB e.op)
def bad2 (op : Int) (n : Nat) : Bool := ((op == 23) && (decide ((n : Int) < 3) || decide ((n : Int) > 33) || ((n : Int) % 2 == 0))) || (!(op == 23) && !((n : Int) == arity op))
theorem bad2_eq (op : Int) (n : Nat) : bad2 op n = !opsB op n := by
  unfold bad2 opsB
  rcases hc : (op == 23) with _ | _
  · simp
  · have h1 : decide ((n : Int) < 3) = !decide ((n : Int) ≥ 3) := by rw [Bool.eq_iff_iff]; simp
    have h2 : decide ((n : Int) > 33) = !decide ((n : Int) ≤ 33) := by rw [Bool.eq_iff_iff]; simp
    have h3 : ((n : Int) % 2 == 0) = !((n : Int) % 2 == 1) := by rw [Bool.eq_iff_iff]; simp; omega
    rw [h1, h2, h3]
    cases ((n : Int) % 2 == 1) <;> cases decide ((n : Int) ≥ 3) <;> cases decide ((n : Int) ≤ 33) <;> rfl
theorem bad1_eq (e : Ex) : (bad1 e || bad2 e.op e.args.length) = (badO e || badN e || badS e) := by
  rw [bad2_eq]
  unfold bad1 badN badS
  rcases h1 : (e.op == 1) with _ | _
  · rcases h2 : (e.n == 0) with _ | _
    · simp
    · have h3 : decide (e.n < 0) = false := by simp at h2 ⊢; omega
      have h4 : decide (e.n > 65535) = false := by simp at h2 ⊢; omega
      rw [h3, h4]
      cases badO e <;> cases noName e.name <;> cases namedB e.op <;> cases opsB e.op e.args.length <;> rfl
  · cases badO e <;> cases noName e.name <;> cases namedB e.op <;> cases opsB e.op e.args.length <;> cases decide (e.n < 0) <;> cases decide (e.n > 65535) <;> cases (e.n == 0) <;> rfl
theorem nodeE_ref (e : Ex) : nodeE e = if bad1 e then 1 else if bad2 e.op e.args.length then 1 else if badV e then 7 else 0 := by
  have := bad1_eq e
  unfold nodeE
  revert this
  cases bad1 e <;> cases bad2 e.op e.args.length <;> cases badO e <;> cases badN e <;> cases badS e <;> simp
set_option maxHeartbeats 1000000 in
theorem wrong_ref (G : Nat → AV) (e : Ex) (h : Hp) (hl : e.name.size ≤ 1048576) : PCall (En G) 225 [.agg (encE e)] h (.int .i64 (nodeE e)) := by
  refine ACalls.pure0 rfl ?_
  refine acalls_of (H := Hint.none) (enM G) Tryz.func225 rfl (by kernel_rfl) (by kernel_rfl) (Nat.le_of_ble_eq_true (by kernel_rfl)) ?_
  show awp _ _ _ _ _ (endQ _ [.tmp 2] _)
  simp -implicitDefEqProofs only [awp_seq, awp_reg, seqQ_n, WW_one, WW_nil, WW_guardE, GX_some, gdstO, none_md, none_fz, frz_nil, ownOp, wc_app, wcont_s, upd_app, ev_tmp, ev_const, av_int, x_move, x_assign, x_box, x_load, x_bin, x_fieldAddr, holdsO_some, holdsO_ofO, bin_lss, frameOf_zero, ↓reduceIte, Nat.reduceEqDiff, Nat.add_zero, Option.getD_some, Bool.not_false, enP, fa53_0, bxE, load_last ag3, encE0]
  refine G1_mid (fun F H => F 42 = .bool (bad1 e) ∧ F 1 = .ptr h.length 0 0 ∧ H = h ++ [.live 4 [encE e]]) ?_ ?_
  · cases b1 : decide (e.op < 1)
    case true =>
      simp -implicitDefEqProofs only [WW_one, WW_nil, WW_guardE, GX_some, gdstO, G1_ft, G1_u, none_md, none_fz, frz_nil, ownOp, wc_app, wcont_s, upd_app, aput, ev_tmp, ev_const, av_bool, x_move, x_pick, pick_t, ↓reduceIte, Nat.reduceEqDiff, Option.getD_some, Bool.not_false, b1]
      exact ⟨by simp [bad1, badO, b1], trivial, trivial⟩
    simp -implicitDefEqProofs only [WW_one, WW_guardE, GX_some, gdstO, G1_ff, none_md, none_fz, frz_nil, ownOp, wc_app, wcont_s, upd_app, ev_tmp, ev_const, av_int, av_bool, x_move, x_pick, pick_f, x_load, x_bin, x_fieldAddr, holdsO_ofO, bin_gtr, ↓reduceIte, Nat.reduceEqDiff, Nat.add_zero, Option.getD_some, Bool.not_false, enP, fa53_0, b1, load_last ag3, encE0, encE1]
    cases b2 : decide (e.op > 25)
    case true =>
      simp -implicitDefEqProofs only [WW_one, WW_nil, WW_guardE, GX_some, gdstO, G1_ft, G1_u, none_md, none_fz, frz_nil, ownOp, wc_app, wcont_s, upd_app, aput, ev_tmp, ev_const, av_bool, x_move, x_pick, pick_t, ↓reduceIte, Nat.reduceEqDiff, Option.getD_some, Bool.not_false, b2]
      exact ⟨by simp [bad1, badO, b2], trivial, trivial⟩
    simp -implicitDefEqProofs only [WW_one, WW_guardE, GX_some, gdstO, G1_ff, none_md, none_fz, frz_nil, ownOp, wc_app, wcont_s, upd_app, ev_tmp, ev_const, av_int, av_bool, x_move, x_pick, pick_f, x_load, x_bin, x_fieldAddr, holdsO_ofO, bin_lss, ↓reduceIte, Nat.reduceEqDiff, Nat.zero_add, Option.getD_some, Bool.not_false, enP, fa53_1, b2, load_last ag3, encE0, encE1]
    have bO : badO e = false := by unfold badO; rw [b1, b2]; rfl
    cases b3 : decide (e.n < 0)
    case true =>
      simp -implicitDefEqProofs only [WW_one, WW_nil, WW_guardE, GX_some, gdstO, G1_ft, G1_u, none_md, none_fz, frz_nil, ownOp, wc_app, wcont_s, upd_app, aput, ev_tmp, ev_const, av_bool, x_move, x_pick, pick_t, ↓reduceIte, Nat.reduceEqDiff, Option.getD_some, Bool.not_false, b3]
      exact ⟨by simp only [bad1, b3]; simp, trivial, trivial⟩
    simp -implicitDefEqProofs only [WW_one, WW_guardE, GX_some, gdstO, G1_ff, none_md, none_fz, frz_nil, ownOp, wc_app, wcont_s, upd_app, ev_tmp, ev_const, av_int, av_bool, x_move, x_pick, pick_f, x_load, x_bin, x_fieldAddr, holdsO_ofO, bin_gtr, ↓reduceIte, Nat.reduceEqDiff, Nat.zero_add, Option.getD_some, Bool.not_false, enP, fa53_1, b3, load_last ag3, encE0, encE1]
    cases b4 : decide (e.n > 65535)
    case true =>
      simp -implicitDefEqProofs only [WW_one, WW_nil, WW_guardE, GX_some, gdstO, G1_ft, G1_u, none_md, none_fz, frz_nil, ownOp, wc_app, wcont_s, upd_app, aput, ev_tmp, ev_const, av_bool, x_move, x_pick, pick_t, ↓reduceIte, Nat.reduceEqDiff, Option.getD_some, Bool.not_false, b4]
      exact ⟨by simp only [bad1, b4]; simp, trivial, trivial⟩
    simp -implicitDefEqProofs only [WW_guardE, GX_some, gdstO, G1_ff, none_md, none_fz, frz_nil, ownOp, wc_app, wcont_s, upd_app, ev_tmp, ev_const, av_int, x_move, x_load, x_bin, x_fieldAddr, holdsO_ofO, bin_neq, ↓reduceIte, Nat.reduceEqDiff, Nat.zero_add, Option.getD_some, Bool.not_false, enP, fa53_1, b4, bne, load_last ag3, load_last ag9, encE0, encE1, encE2]
    have fin : ∀ b, ((!(e.n == 0) && !(e.op == 1)) || (!noName e.name && !namedB e.op)) = b → bad1 e = b := by
      intro b hb
      unfold bad1; rw [bO, b3, b4]; simpa using hb
    cases b5 : (e.n == 0) <;> cases b6 : (e.op == 1) <;> cases b7 : noName e.name
    all_goals
      have b8 := b7
      unfold noName at b8
      simp -implicitDefEqProofs only [WW_one, WW_nil, WW_guardE, GX_some, gdstO, G1_tt, G1_ff, G1_tf, G1_ft, G1_u, none_md, none_fz, frz_nil, ownOp, wc_app, wcont_s, upd_app, aput, ev_tmp, ev_const, ev_func, av_int, av_bool, av_str, x_move, x_pick, pick_t, pick_f, x_load, x_bin, x_fieldAddr, X1_call, callA_fn, holdsO_ofO, bin_neq, bin_sneq, List.map_cons, List.map_nil, List.append_nil, ↓reduceIte, Nat.reduceEqDiff, Nat.add_zero, Nat.zero_add, Option.getD_some, Bool.not_true, Bool.not_false, enP, fa53_0, fa53_2, bne, b5, b6, b8, load_last ag3, load_last ag9, encE0, encE1, encE2]
    all_goals first
      | exact ⟨by rw [fin _ rfl]; simp [b5, b6, b7], trivial, trivial⟩
      | refine (named_ref G e.op _).use ?_
        simp -implicitDefEqProofs only [WW_one, WW_nil, WW_guardE, GX_some, gdstO, G1_tt, G1_ff, none_md, none_fz, frz_nil, ownOp, wc_app, wcont_s, upd_app, ev_tmp, ev_const, av_bool, x_pick, pick_t, pick_f, x_un, holdsO_ofO, un_not, ↓reduceIte, Nat.reduceEqDiff, Option.getD_some, Bool.not_false]
        exact ⟨by rw [fin _ rfl]; simp [b5, b6, b7], trivial, trivial⟩
  rintro F H ⟨f42, f1, rfl⟩
  simp -implicitDefEqProofs only [awp_cond, seqQ_n, ev_tmp, f42]
  refine cond_of (fun ho => ?_) (fun ho => ?_)
  · simp -implicitDefEqProofs only [awp_seq, awp_reg, awp_ret, seqQ_n, seqQ_r, end_r, WW_one, WW_nil, none_md, none_fz, frz_nil, ownOp, wc_app, wcont_s, upd_app, ev_const, av_int, x_assign, ↓reduceIte, Option.getD_some, Bool.not_false]
    exact ⟨by rw [nodeE_ref, if_pos ho], _, rfl⟩
  simp -implicitDefEqProofs only [awp_seq, awp_reg, awp_skip, seqQ_n, WW_one, WW_nil, WW_guardE, GX_some, gdstO, none_md, none_fz, frz_nil, ownOp, wc_app, wcont_s, upd_app, ev_tmp, ev_const, av_int, x_move, x_assign, x_load, x_bin, x_fieldAddr, x_len, holdsO_ofO, bin_eql, ↓reduceIte, Nat.reduceEqDiff, Nat.add_zero, Nat.zero_add, Option.getD_some, Bool.not_false, enP, ln51, fa53_0, fa53_3, f1, load_last ag3, load_last ag51, encE0, encE3, List.length_map]
  generalize hn : e.args.length = n
  have hm : (n : Int).tmod 2 = (n : Int) % 2 := Int.tmod_eq_emod_of_nonneg (by omega)
  have br : aBin Tryz.prog 3 .rem (.int .i64 (n : Int)) (.int .i64 2) = some (.int .i64 ((n : Int) % 2)) := by rw [bin_rem _ _ _ _ _ (by decide), hm]
  refine G1_mid (fun F H => F 73 = .bool (bad2 e.op n) ∧ F 1 = .ptr h.length 0 0 ∧ H = h ++ [.live 4 [encE e]]) ?_ ?_
  · cases b1 : (e.op == 23)
    · simp -implicitDefEqProofs only [WW_one, WW_guardE, GX_some, gdstO, G1_tt, G1_ff, G1_tf, G1_u, none_md, none_fz, frz_nil, ownOp, wc_app, wcont_s, upd_app, aput, ev_tmp, ev_const, ev_func, av_int, av_bool, x_move, x_pick, pick_f, x_load, x_bin, x_fieldAddr, X1_call, callA_fn, holdsO_ofO, bin_neq, List.map_cons, List.map_nil, List.append_nil, ↓reduceIte, Nat.reduceEqDiff, Nat.add_zero, Option.getD_some, Bool.not_false, enP, fa53_0, bne, b1, f1, load_last ag3, encE0]
      refine (arity_ref G e.op _).use ?_
      simp -implicitDefEqProofs only [WW_one, WW_nil, WW_guardE, GX_some, gdstO, G1_tt, G1_ff, none_md, none_fz, frz_nil, ownOp, wc_app, wcont_s, upd_app, ev_tmp, ev_const, av_bool, x_pick, pick_t, pick_f, x_bin, holdsO_ofO, bin_neq, ↓reduceIte, Nat.reduceEqDiff, Option.getD_some, Bool.not_false, enP, bne]
      exact ⟨by unfold bad2; rw [b1]; simp, f1, trivial⟩
    · cases b2 : decide ((n : Int) < 3) <;> cases b3 : decide ((n : Int) > 33) <;> cases b4 : ((n : Int) % 2 == 0)
      all_goals
        simp -implicitDefEqProofs only [WW_one, WW_nil, WW_guardE, GX_some, gdstO, G1_tt, G1_ff, G1_tf, G1_ft, G1_u, none_md, none_fz, frz_nil, ownOp, wc_app, wcont_s, upd_app, aput, ev_tmp, ev_const, av_int, av_bool, x_move, x_pick, pick_t, pick_f, x_load, x_bin, x_fieldAddr, holdsO_ofO, bin_eql, bin_neq, bin_lss, bin_gtr, ↓reduceIte, Nat.reduceEqDiff, Nat.add_zero, Option.getD_some, Bool.not_true, Bool.not_false, enP, fa53_0, bne, b1, b2, b3, b4, br, f1, load_last ag3, encE0]
        exact ⟨by unfold bad2; rw [b1, b2, b3, b4]; simp, trivial, trivial⟩
  clear f1 f42
  rintro F H ⟨f73, f1, rfl⟩
  simp -implicitDefEqProofs only [awp_cond, seqQ_n, ev_tmp, f73]
  subst hn
  refine cond_of (fun hs => ?_) (fun hs => ?_)
  · simp -implicitDefEqProofs only [awp_seq, awp_reg, awp_ret, seqQ_n, seqQ_r, end_r, WW_one, WW_nil, none_md, none_fz, frz_nil, ownOp, wc_app, wcont_s, upd_app, ev_const, av_int, x_assign, ↓reduceIte, Option.getD_some, Bool.not_false]
    exact ⟨by rw [nodeE_ref, if_neg (by simp [ho]), if_pos hs], _, rfl⟩
  simp -implicitDefEqProofs only [awp_seq, awp_reg, awp_skip, seqQ_n, WW_one, WW_guardE, GX_some, gdstO, none_md, none_fz, frz_nil, ownOp, wc_app, wcont_s, upd_app, ev_tmp, ev_const, av_int, x_move, x_load, x_bin, x_fieldAddr, holdsO_ofO, bin_eql, ↓reduceIte, Nat.add_zero, Option.getD_some, Bool.not_false, enP, fa53_0, f1, load_last ag3, load_last ag9, encE0, encE2]
  have fin : ∀ b, badV e = b → nodeE e = if b then 7 else 0 := by
    intro b hb
    rw [nodeE_ref, if_neg (by simp [ho]), if_neg (by simp [hs]), hb]
  cases b2 : (e.op == 2)
  · simp -implicitDefEqProofs only [WW_one, WW_guardE, GX_some, gdstO, G1_ff, G1_tf, none_md, none_fz, frz_nil, ownOp, wc_app, wcont_s, upd_app, aput, ev_tmp, ev_const, ev_func, av_bool, x_move, x_pick, pick_f, x_load, x_fieldAddr, X1_call, callA_fn, holdsO_ofO, List.map_cons, List.map_nil, List.append_nil, ↓reduceIte, Nat.reduceEqDiff, Nat.add_zero, Option.getD_some, Bool.not_false, enP, fa53_0, b2, f1, load_last ag9, load_last ag3, encE0, encE2]
    refine (named_ref G e.op _).use ?_
    cases bm : namedB e.op
    · have hv : badV e = false := by
        unfold namedB at bm; simp only [Bool.or_eq_false_iff] at bm
        simp [badV, bm.1.1, bm.1.2, bm.2]
      simp -implicitDefEqProofs only [awp_seq, awp_reg, awp_skip, awp_ret, awp_cond, seqQ_n, end_r, cond_f, WW_one, WW_nil, WW_guardE, GX_some, gdstO, G1_ff, G1_tf, none_md, none_fz, frz_nil, ownOp, wc_app, wcont_s, upd_app, aput, ev_tmp, ev_const, av_int, av_bool, x_move, x_assign, x_pick, pick_f, ↓reduceIte, Nat.reduceEqDiff, Option.getD_some, Bool.not_false]
      exact ⟨by rw [fin false hv]; rfl, _, rfl⟩
    have hv : badV e = !isName e.name := by
      unfold namedB at bm; rw [b2] at bm; simp only [Bool.false_or] at bm
      unfold badV; rw [b2, bm]; simp
    simp -implicitDefEqProofs only [WW_guardE, GX_some, gdstO, G1_tt, G1_ff, none_md, none_fz, frz_nil, ownOp, wc_app, wcont_s, upd_app, ev_tmp, ev_const, ev_func, av_int, av_bool, x_move, x_pick, pick_t, x_load, x_bin, x_fieldAddr, X1_call, callA_fn, holdsO_ofO, bin_neq, List.map_cons, List.map_nil, List.append_nil, ↓reduceIte, Nat.reduceEqDiff, Nat.add_zero, Nat.zero_add, Option.getD_some, Bool.not_false, enP, fa53_0, fa53_2, bne, b2, f1, load_last ag9, load_last ag3, encE0, encE2]
    refine (isName_ref G e.name _).use ?_
    cases bi : isName e.name
    · simp -implicitDefEqProofs only [awp_seq, awp_reg, awp_ret, awp_cond, seqQ_n, seqQ_r, end_r, cond_t, WW_one, WW_nil, WW_guardE, GX_some, gdstO, G1_tt, G1_ff, none_md, none_fz, frz_nil, ownOp, wc_app, wcont_s, upd_app, ev_tmp, ev_const, av_int, av_bool, x_assign, x_pick, pick_t, pick_f, x_un, holdsO_ofO, un_not, ↓reduceIte, Nat.reduceEqDiff, Option.getD_some, Bool.not_false]
      exact ⟨by rw [fin true (by rw [hv, bi]; rfl)]; rfl, _, rfl⟩
    · simp -implicitDefEqProofs only [awp_seq, awp_reg, awp_skip, awp_ret, awp_cond, seqQ_n, end_r, cond_f, WW_one, WW_nil, WW_guardE, GX_some, gdstO, G1_tt, G1_ff, none_md, none_fz, frz_nil, ownOp, wc_app, wcont_s, upd_app, ev_tmp, ev_const, av_int, av_bool, x_assign, x_pick, pick_t, pick_f, x_un, holdsO_ofO, un_not, ↓reduceIte, Nat.reduceEqDiff, Option.getD_some, Bool.not_true, Bool.not_false]
      exact ⟨by rw [fin false (by rw [hv, bi]; rfl)]; rfl, _, rfl⟩
  · have e2 : e.op = 2 := by simpa using b2
    have hv : badV e = !isVarB e.name := by
      unfold badV; rw [e2]; simp
    simp -implicitDefEqProofs only [WW_guardE, GX_some, gdstO, G1_tt, none_md, none_fz, frz_nil, ownOp, wc_app, wcont_s, upd_app, ev_tmp, ev_func, x_load, x_fieldAddr, X1_call, callA_fn, holdsO_ofO, List.map_cons, List.map_nil, List.append_nil, ↓reduceIte, Nat.reduceEqDiff, Nat.zero_add, Option.getD_some, Bool.not_false, enP, fa53_2, b2, f1, load_last ag9, load_last ag3, encE0, encE2]
    refine (isVar_ref G e.name _ hl).use ?_
    cases bi : isVarB e.name
    · simp -implicitDefEqProofs only [awp_seq, awp_reg, awp_ret, awp_cond, seqQ_n, seqQ_r, end_r, cond_t, WW_one, WW_nil, WW_guardE, GX_some, gdstO, G1_tt, G1_ft, G1_u, none_md, none_fz, frz_nil, ownOp, wc_app, wcont_s, upd_app, aput, ev_tmp, ev_const, av_int, av_bool, x_move, x_assign, x_pick, pick_t, x_un, holdsO_ofO, un_not, ↓reduceIte, Nat.reduceEqDiff, Option.getD_some, Bool.not_false]
      exact ⟨by rw [fin true (by rw [hv, bi]; rfl)]; rfl, _, rfl⟩
    · simp -implicitDefEqProofs only [WW_one, WW_guardE, GX_some, gdstO, G1_tt, G1_ff, none_md, none_fz, frz_nil, ownOp, wc_app, wcont_s, upd_app, ev_tmp, ev_const, ev_func, av_bool, x_move, x_pick, pick_t, x_load, x_un, x_fieldAddr, X1_call, callA_fn, holdsO_ofO, un_not, List.map_cons, List.map_nil, List.append_nil, ↓reduceIte, Nat.reduceEqDiff, Nat.add_zero, Option.getD_some, Bool.not_true, Bool.not_false, enP, fa53_0, f1, load_last ag3, encE0]
      refine (named_ref G e.op _).use ?_
      have bm : namedB e.op = true := by rw [e2]; rfl
      simp -implicitDefEqProofs only [awp_seq, awp_reg, awp_skip, awp_ret, awp_cond, seqQ_n, end_r, cond_f, WW_one, WW_nil, WW_guardE, GX_some, gdstO, G1_tt, G1_ff, G1_tf, none_md, none_fz, frz_nil, ownOp, wc_app, wcont_s, upd_app, aput, ev_tmp, ev_const, av_int, av_bool, x_move, x_assign, x_pick, pick_t, pick_f, x_load, x_bin, x_fieldAddr, holdsO_ofO, bin_neq, ↓reduceIte, Nat.reduceEqDiff, Nat.add_zero, Option.getD_some, Bool.not_true, Bool.not_false, enP, fa53_0, bne, bm, f1, load_last ag3, encE0, b2]
      exact ⟨by rw [fin false (by rw [hv, bi]; rfl)]; rfl, _, rfl⟩
end Go.Proofs.YtocilianjfhifaaGreatDoor.Cov
/- The walk over an expression's nodes (program): every visitor that keeps a number; no condition. -/
set_option linter.unusedSimpArgs false
set_option maxRecDepth 8000
namespace Go.Proofs.YtocilianjfhifaaGreatDoor.Cov
open Go Go.Proofs Go.Proofs.YtocilianjfhifaaGreatDoor.Sm Go.Proofs.YtocilianjfhifaaGreatDoor.Bins Go.RowKit

theorem ag196 : aggO Tryz.prog 196 = some false := by kernel_rfl
theorem sz196 : szO Tryz.prog 196 = some 1 := by kernel_rfl
theorem al72 (h : Hp) : aAlloc Tryz.prog h 53 = some (.ptr h.length 0 0, h ++ [.live 4 [[.int .i64 0, .int .i64 0, .str ⟨#[]⟩, .sl .nil 0 []]]]) := alloc_of (row := [.int .i64 0, .int .i64 0, .str ⟨#[]⟩, .sl .nil 0 []]) (by kernel_rfl)
theorem st72 (h : Hp) (e : Ex) (row : List AV) (hr : row.length = 4) : aStore Tryz.prog (h ++ [.live 4 [row]]) 53 (.ptr h.length 0 0) (.agg (encE e)) = some (h ++ [.live 4 [encE e]]) := by
  rw [store_top (ac_agg (encE_leaf e)) (by rw [encE_len]; exact sz53) (by rw [encE_len, hr]; exact Nat.le_refl _)]
  have : splice row 0 (encE e) = encE e := by unfold splice; simp [encE_len, hr]
  rw [this]
theorem al38 (h : Hp) : aAlloc Tryz.prog h 38 = some (.ptr h.length 0 0, h ++ [.live 1 [[.int .i64 0]]]) := alloc_of (row := [.int .i64 0]) (by kernel_rfl)
theorem al3 (h : Hp) : aAlloc Tryz.prog h 3 = some (.ptr h.length 0 0, h ++ [.live 1 [[.int .i64 0]]]) := alloc_of (row := [.int .i64 0]) (by kernel_rfl)
theorem al123 (h : Hp) : aAlloc Tryz.prog h 196 = some (.ptr h.length 0 0, h ++ [.live 1 [[.nilfn]]]) := alloc_of (row := [.nilfn]) (by kernel_rfl)
/-- a cell of one value -/
theorem ld_cell {h : Hp} {t : TypeId} {b : Nat} {v : AV} (hag : aggO Tryz.prog t = some false) (hb : h[b]? = some (.live 1 [[v]])) : aLoad Tryz.prog h t (.ptr b 0 0) = some v := by
  rw [load_row hag hb (row := [v]) rfl]; rfl
theorem st_cell {h : Hp} {t : TypeId} {b : Nat} {v u : AV} (hs : szO Tryz.prog t = some 1) (hc : acells u = some [u]) (hb : h[b]? = some (.live 1 [[v]])) : aStore Tryz.prog h t (.ptr b 0 0) u = some (h.set b (.live 1 [[u]])) := by
  rw [store_row hc hs hb (row := [v]) rfl (by simp)]; rfl
theorem bxFn (h : Hp) (f : Fn) (a b : List AV) : aBox h (.fn f a b) = some (.ptr h.length 0 0, h ++ [.live 1 [[.fn f a b]]]) := rfl

/-- only one block has changed, and new ones may lie above -/
def Chg (c : Nat) (h h' : Hp) : Prop := h.length ≤ h'.length ∧ ∀ b, b < h.length → b ≠ c → h'[b]? = h[b]?
theorem Chg.refl (c : Nat) (h : Hp) : Chg c h h := ⟨Nat.le_refl _, fun _ _ _ => rfl⟩
theorem Chg.trans {c : Nat} {a b d : Hp} (h1 : Chg c a b) (h2 : Chg c b d) : Chg c a d :=
  ⟨Nat.le_trans h1.1 h2.1, fun i hi hc => by rw [h2.2 i (Nat.lt_of_lt_of_le hi h1.1) hc, h1.2 i hi hc]⟩
theorem Chg.app (c : Nat) (h x : Hp) : Chg c h (h ++ x) := ⟨by simp, fun i hi _ => List.getElem?_append_left hi⟩
theorem Chg.set (c : Nat) (h : Hp) (x : ABlk) : Chg c h (h.set c x) := ⟨by simp, fun i _ hc => by rw [List.getElem?_set, if_neg (fun e => hc e.symm)]⟩
theorem Chg.get {c b : Nat} {h h' : Hp} {x : ABlk} (hc : Chg c h h') (hb : h[b]? = some x) (hne : b ≠ c) : h'[b]? = some x := by
  rw [hc.2 b (lt_of_getElem? hb) hne]; exact hb
theorem Chg.above {c : Nat} {h h' : Hp} (hc : Chg c h h') (hl : h.length ≤ c) : ∃ x, h' = h ++ x := by
  refine ⟨h'.drop h.length, ?_⟩
  have : h'.take h.length = h := by
    refine List.ext_getElem? fun i => ?_
    rcases Nat.lt_or_ge i h.length with hi | hi
    · rw [List.getElem?_take_of_lt hi, hc.2 i hi (by omega)]
    · rw [List.getElem?_eq_none (by rw [List.length_take]; omega), List.getElem?_eq_none hi]
  conv => lhs; rw [← List.take_append_drop h.length h', this]

/-- what a walk makes of a number -/
def run (upd : Ex → Int → Int) (cont : Int → Bool) : List Ex → Int → Int × Bool
  | [], z => (z, true)
  | e :: es, z => if cont (upd e z) then run upd cont es (upd e z) else (upd e z, false)
theorem run_go {upd : Ex → Int → Int} {cont : Int → Bool} : ∀ {xs : List Ex} (ys : List Ex) {z z' : Int}, run upd cont xs z = (z', true) → run upd cont (xs ++ ys) z = run upd cont ys z'
  | [], ys, z, z', h => by cases h; rfl
  | x :: xs, ys, z, z', h => by
    simp only [run, List.cons_append] at h ⊢
    split at h
    · rename_i hc; rw [if_pos hc]; exact run_go ys h
    · cases h
theorem run_stop {upd : Ex → Int → Int} {cont : Int → Bool} : ∀ {xs : List Ex} (ys : List Ex) {z z' : Int}, run upd cont xs z = (z', false) → run upd cont (xs ++ ys) z = (z', false)
  | [], ys, z, z', h => by cases h
  | x :: xs, ys, z, z', h => by
    simp only [run, List.cons_append] at h ⊢
    split at h
    · rename_i hc; rw [if_pos hc]; exact run_stop ys h
    · rename_i hc; rw [if_neg hc]; exact h
theorem pres_take (xs : List Ex) (j : Nat) (hj : j < xs.length) : pres (xs.take (j + 1)) = pres (xs.take j) ++ pre xs[j] := by
  rw [List.take_succ_eq_append_getElem hj, pres_append]; simp [pres]
theorem pre_mem {a : Ex} : ∀ {xs : List Ex}, a ∈ xs → ∀ x ∈ pre a, x ∈ pres xs
  | [], h, _, _ => by cases h
  | y :: ys, h, x, hx => by
    simp only [pres, List.mem_append]
    cases List.mem_cons.1 h with
    | inl e => subst e; exact .inl hx
    | inr e => exact .inr (pre_mem e x hx)
def Visit (G : Nat → AV) (k : FuncId) (upd : Ex → Int → Int) (cont : Int → Bool) (e : Ex) : Prop :=
  ∀ (h : Hp) (c : Nat) (z : Int), h[c]? = some (.live 1 [[.int .i64 z]]) → ACalls (En G) k [.agg (encE e), .ptr c 0 0] h fun v h' => v = .bool (cont (upd e z)) ∧ Chg c h h' ∧ h'[c]? = some (.live 1 [[.int .i64 (upd e z)]])
theorem down_prog (G : Nat → AV) (k : FuncId) (upd : Ex → Int → Int) (cont : Int → Bool) (c vb db : Nat) (hv : vb ≠ c) (hd : db ≠ c) (e : Ex) :
    wt e ≤ 1099511627776 → (∀ x ∈ pre e, Visit G k upd cont x) → ∀ (h : Hp) (z : Int), h[c]? = some (.live 1 [[.int .i64 z]]) → h[vb]? = some (.live 1 [[.fn (.func k) [] [.ptr c 0 0]]]) →
      h[db]? = some (.live 1 [[.fn (.func 230) [] [.ptr vb 0 0, .ptr db 0 0]]]) →
      ACalls (En G) 230 [.agg (encE e), .ptr vb 0 0, .ptr db 0 0] h fun v h' => v = .bool (run upd cont (pre e) z).2 ∧ Chg c h h' ∧ h'[c]? = some (.live 1 [[.int .i64 (run upd cont (pre e) z).1]]) := by
  induction e using Ex.induct with | h e ih => ?_
  intro hw hvis h z hc hvb hdb
  have hcl := lt_of_getElem? hc
  have hal : e.args.length ≤ 1099511627776 := by have := wts_len e.args; have := wt_eq e; omega
  refine acalls_of (H := Hint.none) (enM G) Tryz.func230 rfl (by kernel_rfl) (by kernel_rfl) (Nat.le_of_ble_eq_true (by kernel_rfl)) ?_
  show awp _ _ _ _ _ (endQ _ [.tmp 4] _)
  simp -implicitDefEqProofs only [awp_seq, awp_reg, seqQ_n, WW_one, WW_nil, none_md, none_fz, frz_nil, ownOp, wc_app, wcont_s, upd_app, ev_tmp, ev_const, av_bool, x_assign, x_box, x_load, X1_call, callA_fn, holdsO_some, holdsO_ofO, frameOf_zero, frameOf_succ, List.map_cons, List.map_nil, List.nil_append, List.cons_append, ↓reduceIte, Nat.reduceEqDiff, Option.getD_some, Bool.not_false, enP, bxE, ld_cell ag196 (below_get hvb), ldE]
  refine (hvis e (by rw [pre_eq]; simp) _ c z (below_get hc)).mono ?_
  rintro v h1 ⟨rfl, hch, hc1⟩
  have hch0 := (Chg.app c h _).trans hch
  have hb3 : h1[h.length]? = some (.live 4 [encE e]) := hch.get (top_get _ _) (by omega)
  have hrun : run upd cont (pre e) z = if cont (upd e z) then run upd cont (pres e.args) (upd e z) else (upd e z, false) := by rw [pre_eq]; rfl
  simp -implicitDefEqProofs only [awp_cond, seqQ_n, WW_one, WW_nil, none_md, none_fz, frz_nil, ownOp, wc_app, wcont_s, upd_app, ev_tmp, x_un, holdsO_ofO, un_not, ↓reduceIte, Option.getD_some, Bool.not_false]
  cases hct : cont (upd e z)
  · simp -implicitDefEqProofs only [awp_seq, awp_reg, awp_ret, seqQ_n, seqQ_r, end_r, cond_t, WW_one, WW_nil, none_md, none_fz, frz_nil, ownOp, wc_app, wcont_s, upd_app, ev_const, av_bool, x_assign, ↓reduceIte, Option.getD_some, Bool.not_false]
    rw [hrun, hct]
    exact ⟨rfl, hch0, hc1⟩
  rw [hct, if_pos rfl] at hrun
  have hvb1 := hch0.get hvb hv
  have hdb1 := hch0.get hdb hd
  have l3 : aLoad Tryz.prog h1 51 (.ptr h.length 0 3) = some (.sl e.m 4 (e.args.map encE)) := by rw [load_row ag51 hb3 (row := encE e) rfl, encE3]
  simp -implicitDefEqProofs only [awp_seq, awp_block, awp_reg, awp_skip, seqQ_n, cond_f, WW_one, WW_nil, none_md, none_fz, frz_nil, ownOp, wc_app, wcont_s, upd_app, ev_tmp, ev_const, av_int, x_move, x_load, x_fieldAddr, x_len, holdsO_ofO, ↓reduceIte, Nat.reduceEqDiff, Nat.zero_add, Option.getD_some, Bool.not_true, Bool.not_false, enP, ln51, fa53_3, l3, List.length_map]
  refine awp_loop (fun n F H => ∃ j z', n + j = e.args.length ∧ F 1 = .ptr vb 0 0 ∧ F 2 = .ptr db 0 0 ∧ F 12 = .sl e.m 4 (e.args.map encE) ∧ F 13 = .int .i64 e.args.length ∧ F 14 = .int .i64 (j : Nat) ∧ Chg c h H ∧ H[c]? = some (.live 1 [[.int .i64 z']]) ∧ run upd cont (pres (e.args.take j)) (upd e z) = (z', true)) e.args.length ⟨0, upd e z, by simp, by simp -implicitDefEqProofs only [upd_app, frameOf_zero, frameOf_succ, ↓reduceIte, Nat.reduceEqDiff], by simp -implicitDefEqProofs only [upd_app, frameOf_zero, frameOf_succ, ↓reduceIte, Nat.reduceEqDiff], by simp -implicitDefEqProofs only [upd_app, ↓reduceIte, Nat.reduceEqDiff], by simp -implicitDefEqProofs only [upd_app, ↓reduceIte, Nat.reduceEqDiff], by simp -implicitDefEqProofs only [upd_app, ↓reduceIte]; rfl, hch0, hc1, rfl⟩ ?_
  rintro n F H ⟨j, z', hj, f1, f2, f12, f13, f14, hC, hcz, hr⟩
  simp -implicitDefEqProofs only [awp_seq, awp_reg, awp_cond, seqQ_n, WW_one, WW_nil, none_md, none_fz, frz_nil, ownOp, wc_app, wcont_s, upd_app, ev_tmp, x_bin, holdsO_ofO, bin_lss, ↓reduceIte, Option.getD_some, Bool.not_false, enP, f13, f14]
  refine cond_of (fun hlt => ?_) (fun hlt => ?_)
  · have hj' : j < e.args.length := by simpa using hlt
    have hdH : H[db]? = some (.live 1 [[.fn (.func 230) [] [.ptr vb 0 0, .ptr db 0 0]]]) := hC.get hdb hd
    have hvH : H[vb]? = some (.live 1 [[.fn (.func k) [] [.ptr c 0 0]]]) := hC.get hvb hv
    simp -implicitDefEqProofs only [awp_seq, awp_block, awp_reg, awp_skip, seqQ_n, WW_one, WW_nil, none_md, none_fz, frz_nil, ownOp, wc_app, wcont_s, wcont_n, upd_app, ev_tmp, x_alloc, x_load, x_store, x_indexAddr, X1_call, callA_fn, holdsO_some, holdsO_ofO, holdsO_ofS, List.map_cons, List.map_nil, List.nil_append, List.cons_append, ↓reduceIte, Nat.reduceEqDiff, Option.getD_some, Bool.not_false, enP, ix51, Option.getD_none, f12, f14, ix_map hj', load_mapA ag53 sz53 encE_len hj', al72, st72 _ _ [.int .i64 0, .int .i64 0, .str ⟨#[]⟩, .sl .nil 0 []] rfl, f2, ld_cell ag196 (below_get hdH), ldE]
    have hmem : e.args[j] ∈ e.args := List.getElem_mem hj'
    refine (ih e.args[j] hmem (by have := wts_mem hmem; have := wt_eq e; omega) (fun x hx => hvis x (by rw [pre_eq]; exact List.mem_cons_of_mem _ (pre_mem hmem x hx))) _ z' (below_get hcz) (below_get hvH) (below_get hdH)).mono ?_
    rintro v h2 ⟨rfl, hch2, hc2⟩
    have hC2 := hC.trans ((Chg.app c H _).trans hch2)
    have hsplit : pres e.args = pres (e.args.take j) ++ (pre e.args[j] ++ pres (e.args.drop (j + 1))) := by
      rw [← List.append_assoc, ← pres_take _ _ hj', ← pres_append, List.take_append_drop]
    simp -implicitDefEqProofs only [awp_cond, seqQ_n, WW_one, WW_nil, none_md, none_fz, frz_nil, ownOp, wc_app, wcont_s, upd_app, ev_tmp, x_un, holdsO_ofO, un_not, ↓reduceIte, Option.getD_some, Bool.not_false]
    rcases hrr : run upd cont (pre e.args[j]) z' with ⟨z2, b2⟩
    rw [hrr] at hc2
    cases b2
    · simp -implicitDefEqProofs only [awp_seq, awp_reg, awp_ret, seqQ_n, seqQ_r, blk_r, rnd_r, end_r, cond_t, WW_one, WW_nil, none_md, none_fz, frz_nil, ownOp, wc_app, wcont_s, upd_app, ev_const, av_bool, x_assign, ↓reduceIte, Option.getD_some, Bool.not_false]
      have : run upd cont (pre e) z = (z2, false) := by rw [hrun, hsplit, run_go _ hr]; exact run_stop _ hrr
      rw [this]
      exact ⟨rfl, hC2, hc2⟩
    · simp -implicitDefEqProofs only [awp_reg, awp_skip, seqQ_n, blk_n, rnd_n, cond_f, WW_one, WW_nil, none_md, none_fz, frz_nil, ownOp, wc_app, wcont_s, upd_app, ev_tmp, ev_const, av_int, x_move, x_bin, holdsO_ofO, bin_add, ↓reduceIte, Nat.reduceEqDiff, Option.getD_some, Bool.not_true, Bool.not_false, enP, f1, f2, f12, f13, f14, wrap_succ (show j < 9223372036854775807 by omega)]
      refine ⟨n - 1, by omega, j + 1, z2, by omega, trivial, trivial, trivial, trivial, rfl, hC2, hc2, ?_⟩
      rw [pres_take _ _ hj', run_go _ hr]; exact hrr
  · have hj' : ¬ j < e.args.length := by simpa using hlt
    simp -implicitDefEqProofs only [awp_seq, awp_reg, awp_ret, awp_exit, seqQ_n, seqQ_e, blk_e, rnd_e, end_r, WW_one, WW_nil, none_md, none_fz, frz_nil, ownOp, wc_app, wcont_s, upd_app, ev_const, av_bool, x_assign, ↓reduceIte, Option.getD_some, Bool.not_false]
    rw [List.take_of_length_le (by omega)] at hr
    rw [hrun, hr]
    exact ⟨rfl, hC, hcz⟩

theorem walk_prog (G : Nat → AV) (k : FuncId) (upd : Ex → Int → Int) (cont : Int → Bool) (c : Nat) (e : Ex) (hw : wt e ≤ 1099511627776) (hvis : ∀ x ∈ pre e, Visit G k upd cont x) (h : Hp) (z : Int) (hc : h[c]? = some (.live 1 [[.int .i64 z]])) :
    ACalls (En G) 196 [.agg (encE e), .fn (.func k) [] [.ptr c 0 0]] h fun _ h' => Chg c h h' ∧ h'[c]? = some (.live 1 [[.int .i64 (run upd cont (pre e) z).1]]) := by
  have hcl := lt_of_getElem? hc
  refine acalls_of (H := Hint.none) (enM G) Tryz.func196 rfl (by kernel_rfl) (by kernel_rfl) (Nat.le_of_ble_eq_true (by kernel_rfl)) ?_
  show awp _ _ _ _ _ (endQ _ [] _)
  simp -implicitDefEqProofs only [awp_seq, awp_reg, seqQ_n, WW_one, WW_nil, none_md, none_fz, frz_nil, ownOp, wc_app, wcont_s, upd_app, ev_tmp, x_alloc, x_box, x_store, x_makeFunc, holdsO_some, frameOf_zero, frameOf_succ, List.map_cons, List.map_nil, ↓reduceIte, Nat.reduceEqDiff, Option.getD_some, Bool.not_false, enP, Option.getD_none, bxE, bxFn, al123]
  have g0 : (h ++ [ABlk.live 4 [encE e]] ++ [ABlk.live 1 [[AV.fn (.func k) [] [.ptr c 0 0]]]] ++ [ABlk.live 1 [[AV.nilfn]]])[(h ++ [ABlk.live 4 [encE e]] ++ [ABlk.live 1 [[AV.fn (.func k) [] [.ptr c 0 0]]]]).length]? = some (.live 1 [[.nilfn]]) := top_get _ _
  simp -implicitDefEqProofs only [awp_reg, seqQ_n, WW_one, WW_nil, none_md, none_fz, frz_nil, ownOp, wc_app, wcont_n, upd_app, ev_tmp, x_load, holdsO_ofS, ↓reduceIte, Nat.reduceEqDiff, Option.getD_some, Bool.not_false, enP, st_cell sz196 (ac_fn _ _ _) g0]
  generalize hdb : (h ++ [ABlk.live 4 [encE e]] ++ [ABlk.live 1 [[AV.fn (.func k) [] [.ptr c 0 0]]]]).length = db at g0 ⊢
  generalize hvb : (h ++ [ABlk.live 4 [encE e]]).length = vb
  have hvl : vb = h.length + 1 := by rw [← hvb]; simp
  have hdl : db = h.length + 2 := by rw [← hdb]; simp
  generalize hH : (h ++ [ABlk.live 4 [encE e]] ++ [ABlk.live 1 [[AV.fn (.func k) [] [.ptr c 0 0]]]] ++ [ABlk.live 1 [[AV.nilfn]]]).set db (.live 1 [[AV.fn (.func 230) [] [.ptr vb 0 0, .ptr db 0 0]]]) = H
  have h1 : H[db]? = some (.live 1 [[.fn (.func 230) [] [.ptr vb 0 0, .ptr db 0 0]]]) := by rw [← hH]; exact get_set_eq g0
  have h2 : H[vb]? = some (.live 1 [[.fn (.func k) [] [.ptr c 0 0]]]) := by
    rw [← hH]; refine get_set_ne ?_ (by omega)
    rw [← hvb]; exact below_get (top_get _ _)
  have h3 : H[h.length]? = some (.live 4 [encE e]) := by
    rw [← hH]; refine get_set_ne ?_ (by omega)
    exact below_get (below_get (top_get _ _))
  have h4 : H[c]? = some (.live 1 [[.int .i64 z]]) := by
    rw [← hH]; refine get_set_ne ?_ (by omega)
    exact below_get (below_get (below_get hc))
  have hC : Chg c h H := by
    refine ⟨by rw [← hH]; simp, fun b hb hbc => ?_⟩
    obtain ⟨x, hx⟩ : ∃ x, h[b]? = some x := ⟨_, List.getElem?_eq_getElem hb⟩
    rw [← hH, hx]
    exact get_set_ne (below_get (below_get (below_get hx))) (by omega)
  simp -implicitDefEqProofs only [WW_one, none_md, none_fz, frz_nil, ownOp, wc_app, wcont_s, upd_app, ev_tmp, x_load, X1_call, callA_fn, holdsO_ofO, List.map_cons, List.map_nil, List.nil_append, List.cons_append, ↓reduceIte, Nat.reduceEqDiff, Option.getD_some, Bool.not_false, enP, ld_cell ag196 h1, ldE_at h3]
  refine (down_prog G k upd cont c vb db (by omega) (by omega) e hw hvis H z h4 h2 h1).mono ?_
  rintro v h' ⟨rfl, hch, hc1⟩
  simp -implicitDefEqProofs only [end_n0, WW_nil, wcont_s]
  exact ⟨hC.trans hch, hc1⟩
end Go.Proofs.YtocilianjfhifaaGreatDoor.Cov
/- Depth, Size and Valid of expressions (program); no condition but the variables that are laid. -/
set_option linter.unusedSimpArgs false
set_option maxRecDepth 8000
namespace Go.Proofs.YtocilianjfhifaaGreatDoor.Cov
open Go Go.Proofs Go.Proofs.YtocilianjfhifaaGreatDoor.Sm Go.Proofs.YtocilianjfhifaaGreatDoor.Bins Go.RowKit

theorem size_visit (G : Nat → AV) (e : Ex) : Visit G 233 (fun _ z => IntKind.i64.wrap (z + 1)) (fun _ => true) e := by
  intro h c z hc
  have hcl := lt_of_getElem? hc
  refine acalls_of (H := Hint.none) (enM G) Tryz.func233 rfl (by kernel_rfl) (by kernel_rfl) (Nat.le_of_ble_eq_true (by kernel_rfl)) ?_
  show awp _ _ _ _ _ (endQ _ [.tmp 3] _)
  simp -implicitDefEqProofs only [awp_seq, awp_reg, awp_ret, seqQ_n, end_r, WW_one, WW_nil, none_md, none_fz, frz_nil, ownOp, wc_app, wcont_s, wcont_n, upd_app, ev_tmp, ev_const, av_int, av_bool, x_assign, x_box, x_load, x_store, x_bin, holdsO_some, holdsO_ofO, holdsO_ofS, bin_add, frameOf_zero, frameOf_succ, ↓reduceIte, Nat.reduceEqDiff, Option.getD_some, Bool.not_false, enP, Option.getD_none, bxE, ld_cell ag3 (below_get hc), st_cell sz3 (ac_int _ _) (below_get hc)]
  exact ⟨trivial, (Chg.app c h _).trans (Chg.set c _ _), get_set_eq (below_get hc)⟩
theorem first_visit (G : Nat → AV) (hG : GOk G) (e : Ex) (hl : e.name.size ≤ 1048576) : Visit G 197 (fun e _ => nodeE e) (fun z => z == 0) e := by
  intro h c z hc
  have hcl := lt_of_getElem? hc
  refine acalls_of (H := Hint.none) (enM G) Tryz.func197 rfl (by kernel_rfl) (by kernel_rfl) (Nat.le_of_ble_eq_true (by kernel_rfl)) ?_
  show awp _ _ _ _ _ (endQ _ [.tmp 3] _)
  simp -implicitDefEqProofs only [awp_seq, awp_reg, seqQ_n, WW_one, WW_nil, none_md, none_fz, frz_nil, ownOp, wc_app, wcont_s, upd_app, ev_tmp, ev_const, ev_func, av_bool, x_assign, x_box, x_load, X1_call, callA_fn, holdsO_some, holdsO_ofO, frameOf_zero, List.map_cons, List.map_nil, List.append_nil, ↓reduceIte, Nat.reduceEqDiff, Option.getD_some, Bool.not_false, enP, bxE, ldE]
  refine (node_prog G hG e _ hl).use ?_
  have hs := get_set_eq (y := .live 1 [[.int .i64 (nodeE e)]]) (below_get (x := .live 4 [encE e]) hc)
  simp -implicitDefEqProofs only [awp_seq, awp_reg, awp_ret, seqQ_n, end_r, WW_one, WW_nil, none_md, none_fz, frz_nil, ownOp, wc_app, wcont_s, wcont_n, upd_app, ev_tmp, ev_const, av_int, x_assign, x_load, x_store, x_bin, holdsO_ofO, holdsO_ofS, bin_eql, frameOf_zero, frameOf_succ, ↓reduceIte, Nat.reduceEqDiff, Option.getD_some, Bool.not_false, enP, Option.getD_none, st_cell sz38 (ac_int _ _) (below_get hc), ld_cell ag38 hs]
  exact ⟨trivial, (Chg.app c h _).trans (Chg.set c _ _), hs⟩
theorem run_size : ∀ (xs : List Ex) (n : Nat), n + xs.length ≤ 1099511627776 → run (fun _ z => IntKind.i64.wrap (z + 1)) (fun _ => true) xs (n : Int) = (((n + xs.length : Nat) : Int), true)
  | [], n, _ => rfl
  | x :: xs, n, h => by
    simp only [List.length_cons] at h
    simp only [run, if_true]
    rw [wrap_succ (by omega), run_size xs (n + 1) (by omega), List.length_cons]
    congr 1; omega
/-- the first error of nodes -/
def errs (xs : List Ex) : Int := xs.foldl (fun z e => if z = 0 then nodeE e else z) 0
theorem errs_ne : ∀ (xs : List Ex) (z : Int), z ≠ 0 → xs.foldl (fun z e => if z = 0 then nodeE e else z) z = z
  | [], _, _ => rfl
  | x :: xs, z, h => by rw [List.foldl_cons, if_neg h]; exact errs_ne xs z h
theorem run_errs : ∀ (xs : List Ex), (run (fun e _ => nodeE e) (fun z => z == 0) xs 0).1 = errs xs
  | [] => rfl
  | x :: xs => by
    simp only [run, errs, List.foldl_cons, if_true]
    rcases hn : (nodeE x == 0) with _ | _
    · have : nodeE x ≠ 0 := by simpa using hn
      rw [errs_ne _ _ this]; rfl
    · have : nodeE x = 0 := by simpa using hn
      rw [this]; simp only [if_true]; exact run_errs xs
theorem pre_name {x e : Ex} (hx : x ∈ pre e) : x.name.size ≤ wt e := by
  induction e using Ex.induct with | h e ih => ?_
  rw [pre_eq] at hx
  have hw := wt_eq e
  rcases List.mem_cons.1 hx with rfl | hx
  · omega
  have : ∀ l : List Ex, (∀ a ∈ l, x ∈ pre a → x.name.size ≤ wt a) → x ∈ pres l → x.name.size ≤ wts l := by
    intro l
    induction l with
    | nil => intro _ h; simp [pres] at h
    | cons y l ih2 =>
      intro hh h
      simp only [pres, List.mem_append] at h
      simp only [wts]
      rcases h with h | h
      · have := hh y (by simp) h; omega
      · have := ih2 (fun a ha => hh a (by simp [ha])) h; omega
  have := this e.args (fun a ha => ih a ha) hx
  omega
theorem size_prog (G : Nat → AV) (e : Ex) (h : Hp) (hw : wt e ≤ 1099511627776) : PCall (En G) 200 [.agg (encE e)] h (.int .i64 (pre e).length) := by
  refine ACalls.pure0 rfl ?_
  refine acalls_of (H := Hint.none) (enM G) Tryz.func200 rfl (by kernel_rfl) (by kernel_rfl) (Nat.le_of_ble_eq_true (by kernel_rfl)) ?_
  show awp _ _ _ _ _ (endQ _ [.tmp 2] _)
  have hg := top_get (h ++ [ABlk.live 4 [encE e]]) (.live 1 [[.int .i64 0]])
  have hs : (h ++ [ABlk.live 4 [encE e]] ++ [ABlk.live 1 [[.int .i64 0]]]).set (h ++ [ABlk.live 4 [encE e]]).length (.live 1 [[.int .i64 0]]) = h ++ [ABlk.live 4 [encE e]] ++ [ABlk.live 1 [[.int .i64 0]]] := top_set _ _ _
  simp -implicitDefEqProofs only [awp_seq, awp_reg, seqQ_n, WW_one, WW_nil, none_md, none_fz, frz_nil, ownOp, wc_app, wcont_s, wcont_n, upd_app, ev_tmp, ev_const, ev_func, av_int, x_assign, x_alloc, x_box, x_load, x_store, x_makeFunc, X1_call, callA_fn, holdsO_some, holdsO_ofO, holdsO_ofS, frameOf_zero, List.map_cons, List.map_nil, List.append_nil, ↓reduceIte, Nat.reduceEqDiff, Option.getD_some, Bool.not_false, enP, Option.getD_none, bxE, al3, st_cell sz3 (ac_int _ _) hg, hs, ldE_at (below_get (top_get h _))]
  refine (walk_prog G 233 _ _ _ e hw (fun x _ => size_visit G x) _ 0 hg).mono ?_
  rintro v h' ⟨hch, hc1⟩
  simp -implicitDefEqProofs only [awp_seq, awp_reg, awp_ret, seqQ_n, end_r, WW_one, WW_nil, none_md, none_fz, frz_nil, ownOp, wc_app, wcont_s, upd_app, ev_tmp, x_assign, x_load, holdsO_ofO, ↓reduceIte, Nat.reduceEqDiff, Option.getD_some, Bool.not_false, enP, ld_cell ag3 hc1]
  have := run_size (pre e) 0 (by have := pre_wt e; omega)
  simp only [Nat.zero_add] at this
  exact ⟨by rw [show (0 : Int) = ((0 : Nat) : Int) from rfl, this], (((Chg.app _ h _).trans (Chg.app _ _ _)).trans hch).above (by simp)⟩
theorem depth_prog (G : Nat → AV) (e : Ex) : wt e ≤ 1099511627776 → ∀ h : Hp, PCall (En G) 199 [.agg (encE e)] h (.int .i64 (dep e)) := by
  induction e using Ex.induct with | h e ih => ?_
  intro hw h
  have hal : e.args.length ≤ 1099511627776 := by have := wts_len e.args; have := wt_eq e; omega
  refine ACalls.pure0 rfl ?_
  refine acalls_of (H := Hint.none) (enM G) Tryz.func199 rfl (by kernel_rfl) (by kernel_rfl) (Nat.le_of_ble_eq_true (by kernel_rfl)) ?_
  show awp _ _ _ _ _ (endQ _ [.tmp 2] _)
  simp -implicitDefEqProofs only [awp_seq, awp_block, awp_reg, seqQ_n, WW_one, WW_nil, none_md, none_fz, frz_nil, ownOp, wc_app, wcont_s, upd_app, ev_tmp, ev_const, av_int, x_move, x_assign, x_box, x_load, x_fieldAddr, x_len, holdsO_some, holdsO_ofO, frameOf_zero, ↓reduceIte, Nat.reduceEqDiff, Nat.zero_add, Option.getD_some, Bool.not_false, enP, ln51, fa53_3, bxE, load_last ag51, encE3, List.length_map]
  have hdw : dep e ≤ 1099511627776 := Nat.le_trans (dep_wt e) hw
  refine awp_loop (fun n F H => ∃ j, n + j = e.args.length ∧ F 3 = .int .i64 (deps (e.args.take j) : Nat) ∧ F 7 = .sl e.m 4 (e.args.map encE) ∧ F 8 = .int .i64 e.args.length ∧ F 9 = .int .i64 (j : Nat) ∧ ∃ x, H = h ++ x) e.args.length ⟨0, by simp, by simp -implicitDefEqProofs only [upd_app, ↓reduceIte, Nat.reduceEqDiff]; rfl, by simp -implicitDefEqProofs only [upd_app, ↓reduceIte, Nat.reduceEqDiff], by simp -implicitDefEqProofs only [upd_app, ↓reduceIte, Nat.reduceEqDiff], by simp -implicitDefEqProofs only [upd_app, ↓reduceIte]; rfl, ⟨_, rfl⟩⟩ ?_
  rintro n F H ⟨j, hj, f3, f7, f8, f9, x, rfl⟩
  simp -implicitDefEqProofs only [awp_seq, awp_reg, awp_cond, seqQ_n, WW_one, WW_nil, none_md, none_fz, frz_nil, ownOp, wc_app, wcont_s, upd_app, ev_tmp, x_bin, holdsO_ofO, bin_lss, ↓reduceIte, Option.getD_some, Bool.not_false, enP, f8, f9]
  refine cond_of (fun hlt => ?_) (fun hlt => ?_)
  · have hj' : j < e.args.length := by simpa using hlt
    have hmem : e.args[j] ∈ e.args := List.getElem_mem hj'
    simp -implicitDefEqProofs only [awp_seq, awp_block, awp_reg, awp_skip, seqQ_n, WW_one, WW_nil, none_md, none_fz, frz_nil, ownOp, wc_app, wcont_s, wcont_n, upd_app, ev_tmp, ev_func, x_move, x_alloc, x_load, x_store, x_indexAddr, X1_call, callA_fn, holdsO_some, holdsO_ofO, holdsO_ofS, List.map_cons, List.map_nil, List.append_nil, ↓reduceIte, Nat.reduceEqDiff, Option.getD_some, Bool.not_false, enP, ix51, Option.getD_none, f3, f7, f9, ix_map hj', load_mapA ag53 sz53 encE_len hj', al72, st72 _ _ [.int .i64 0, .int .i64 0, .str ⟨#[]⟩, .sl .nil 0 []] rfl, ldE]
    refine (ih e.args[j] hmem (by have := wts_mem hmem; have := wt_eq e; omega) _).use ?_
    simp -implicitDefEqProofs only [awp_reg, seqQ_n, blk_n, rnd_n, WW_one, WW_nil, none_md, none_fz, frz_nil, ownOp, wc_app, wcont_s, upd_app, ev_tmp, ev_const, av_int, x_move, x_assign, x_bin, x_max, holdsO_ofO, bin_add, max_ii, ↓reduceIte, Nat.reduceEqDiff, Option.getD_some, Bool.not_false, enP, f7, f8, f9, wrap_succ (show j < 9223372036854775807 by omega)]
    refine ⟨n - 1, by omega, j + 1, by omega, ?_, trivial, trivial, rfl, _, by rw [List.append_assoc]⟩
    rw [deps_take _ _ hj']
    congr 1
    omega
  · have hj' : ¬ j < e.args.length := by simpa using hlt
    rw [List.take_of_length_le (by omega)] at f3
    rw [dep_eq] at hdw ⊢
    simp -implicitDefEqProofs only [awp_seq, awp_reg, awp_ret, awp_exit, seqQ_n, seqQ_e, blk_e, rnd_e, end_r, WW_one, WW_nil, none_md, none_fz, frz_nil, ownOp, wc_app, wcont_s, upd_app, ev_tmp, ev_const, av_int, x_move, x_assign, x_bin, holdsO_ofO, bin_add, ↓reduceIte, Nat.reduceEqDiff, Option.getD_some, Bool.not_false, enP, f3, wrap_succ (show deps e.args < 9223372036854775807 by omega)]
    exact ⟨trivial, x, rfl⟩
/-- what Valid returns -/
def exE (e : Ex) : Int := if errs (pre e) = 0 ∧ (24 < dep e ∨ 400 < (pre e).length) then 2 else errs (pre e)
theorem exvalid_prog (G : Nat → AV) (hG : GOk G) (e : Ex) (h : Hp) (hw : wt e ≤ 1048576) : PCall (En G) 151 [.agg (encE e)] h (.int .i64 (exE e)) := by
  refine ACalls.pure0 rfl ?_
  refine acalls_of (H := Hint.none) (enM G) Tryz.func151 rfl (by kernel_rfl) (by kernel_rfl) (Nat.le_of_ble_eq_true (by kernel_rfl)) ?_
  show awp _ _ _ _ _ (endQ _ [.tmp 2] _)
  have hg := top_get (h ++ [ABlk.live 4 [encE e]]) (.live 1 [[.int .i64 0]])
  have hs : (h ++ [ABlk.live 4 [encE e]] ++ [ABlk.live 1 [[.int .i64 0]]]).set (h ++ [ABlk.live 4 [encE e]]).length (.live 1 [[.int .i64 0]]) = h ++ [ABlk.live 4 [encE e]] ++ [ABlk.live 1 [[.int .i64 0]]] := top_set _ _ _
  have hb := below_get (x := ABlk.live 1 [[.int .i64 0]]) (top_get h (.live 4 [encE e]))
  simp -implicitDefEqProofs only [awp_seq, awp_reg, seqQ_n, WW_one, WW_nil, none_md, none_fz, frz_nil, ownOp, wc_app, wcont_s, wcont_n, upd_app, ev_tmp, ev_const, ev_func, av_int, x_assign, x_alloc, x_box, x_load, x_store, x_makeFunc, X1_call, callA_fn, holdsO_some, holdsO_ofO, holdsO_ofS, frameOf_zero, List.map_cons, List.map_nil, List.append_nil, ↓reduceIte, Nat.reduceEqDiff, Option.getD_some, Bool.not_false, enP, Option.getD_none, bxE, al38, st_cell sz38 (ac_int _ _) hg, hs, ldE_at hb]
  refine (walk_prog G 197 _ _ _ e (by omega) (fun x hx => first_visit G hG x (by have := pre_name hx; omega)) _ 0 hg).mono ?_
  rintro v h' ⟨hch, hc1⟩
  rw [run_errs] at hc1
  have hb' := hch.get hb (by simp)
  have hab := (((Chg.app _ h _).trans (Chg.app _ _ _)).trans hch).above (show h.length ≤ (h ++ [ABlk.live 4 [encE e]]).length by simp)
  simp -implicitDefEqProofs only [awp_seq, awp_reg, seqQ_n, WW_one, WW_nil, WW_guardE, GX_some, gdstO, none_md, none_fz, frz_nil, ownOp, wc_app, wcont_s, upd_app, ev_tmp, ev_const, av_int, x_move, x_load, x_bin, holdsO_ofO, bin_eql, ↓reduceIte, Nat.reduceEqDiff, Option.getD_some, Bool.not_false, enP, ld_cell ag38 hc1]
  rcases he : (errs (pre e) == 0) with _ | _
  · simp -implicitDefEqProofs only [awp_seq, awp_reg, awp_skip, awp_ret, awp_cond, seqQ_n, end_r, cond_f, WW_one, WW_nil, WW_guardE, GX_some, gdstO, G1_tf, G1_u, none_md, none_fz, frz_nil, ownOp, wc_app, wcont_s, upd_app, aput, ev_tmp, ev_const, av_bool, x_assign, x_pick, pick_f, x_load, holdsO_ofO, ↓reduceIte, Nat.reduceEqDiff, Option.getD_some, Bool.not_false, enP, ld_cell ag38 hc1]
    have : errs (pre e) ≠ 0 := by simpa using he
    exact ⟨by unfold exE; rw [if_neg (fun hh => this hh.1)], hab⟩
  have he0 : errs (pre e) = 0 := by simpa using he
  simp -implicitDefEqProofs only [WW_guardE, GX_some, gdstO, G1_tt, none_md, none_fz, frz_nil, ownOp, wc_app, wcont_s, upd_app, ev_tmp, ev_func, x_load, X1_call, callA_fn, holdsO_ofO, List.map_cons, List.map_nil, List.append_nil, ↓reduceIte, Nat.reduceEqDiff, Option.getD_some, Bool.not_false, enP, ldE_at hb']
  refine (depth_prog G e (by omega) _).use ?_
  simp -implicitDefEqProofs only [WW_guardE, GX_some, gdstO, G1_tt, none_md, none_fz, frz_nil, ownOp, wc_app, wcont_s, upd_app, ev_tmp, ev_const, av_int, x_move, x_bin, holdsO_ofO, bin_gtr, ↓reduceIte, Nat.reduceEqDiff, Option.getD_some, Bool.not_false, enP]
  refine G1_of (fun hd => ?_) (fun hd => ?_)
  · simp -implicitDefEqProofs only [awp_seq, awp_reg, awp_ret, awp_cond, seqQ_n, seqQ_r, end_r, cond_t, WW_one, WW_nil, WW_guardE, GX_some, gdstO, G1_tt, G1_ft, none_md, none_fz, frz_nil, ownOp, wc_app, wcont_s, upd_app, aput, ev_tmp, ev_const, av_int, av_bool, x_assign, x_pick, pick_t, ↓reduceIte, Nat.reduceEqDiff, Option.getD_some, Bool.not_false, hd]
    exact ⟨by unfold exE; rw [if_pos ⟨he0, .inl (by simp at hd; omega)⟩], hab⟩
  simp -implicitDefEqProofs only [WW_guardE, GX_some, gdstO, G1_ff, none_md, none_fz, frz_nil, ownOp, wc_app, wcont_s, upd_app, ev_tmp, ev_func, x_load, X1_call, callA_fn, holdsO_ofO, List.map_cons, List.map_nil, List.append_nil, ↓reduceIte, Nat.reduceEqDiff, Option.getD_some, Bool.not_false, enP, hd, ldE_at hb']
  refine (size_prog G e _ (by omega)).use ?_
  simp -implicitDefEqProofs only [awp_cond, seqQ_n, WW_one, WW_nil, WW_guardE, GX_some, gdstO, G1_tt, G1_ff, none_md, none_fz, frz_nil, ownOp, wc_app, wcont_s, upd_app, ev_tmp, ev_const, av_int, av_bool, x_pick, pick_t, pick_f, x_bin, holdsO_ofO, bin_gtr, ↓reduceIte, Nat.reduceEqDiff, Option.getD_some, Bool.not_false, enP]
  refine cond_of (fun hn => ?_) (fun hn => ?_)
  · simp -implicitDefEqProofs only [awp_seq, awp_reg, awp_ret, seqQ_n, seqQ_r, end_r, WW_one, WW_nil, none_md, none_fz, frz_nil, ownOp, wc_app, wcont_s, upd_app, ev_const, av_int, x_assign, ↓reduceIte, Option.getD_some, Bool.not_false]
    exact ⟨by unfold exE; rw [if_pos ⟨he0, .inr (by simp at hn; omega)⟩], hab⟩
  · simp -implicitDefEqProofs only [awp_seq, awp_reg, awp_skip, awp_ret, seqQ_n, end_r, WW_one, WW_nil, none_md, none_fz, frz_nil, ownOp, wc_app, wcont_s, upd_app, ev_tmp, x_assign, x_load, holdsO_ofO, ↓reduceIte, Nat.reduceEqDiff, Option.getD_some, Bool.not_false, enP, ld_cell ag38 hc1]
    exact ⟨by unfold exE; rw [if_neg (fun hh => by simp at hn hd; omega)], hab⟩
end Go.Proofs.YtocilianjfhifaaGreatDoor.Cov
/- The reference's walk: see, over, Valid; no condition. -/
set_option linter.unusedSimpArgs false
set_option maxRecDepth 8000
namespace Go.Proofs.YtocilianjfhifaaGreatDoor.Cov
open Go Go.Proofs Go.Proofs.YtocilianjfhifaaGreatDoor.Sm Go.Proofs.YtocilianjfhifaaGreatDoor.Bins Go.RowKit

theorem cond_mid {E : Env} {H : Hint} {x y : Code} {F : Fr} {h : Hp} {Q : AEx → Fr → Hp → Prop} {b : Bool} (N R : Fr → Hp → Prop) (h1 : b = true → awp E H x F h (midQ N R)) (h2 : b = false → awp E H y F h (midQ N R)) (hn : ∀ F h, N F h → Q .normal F h) (hr : ∀ F h, R F h → Q .ret F h) :
    condA E H x y F h Q (.bool b) := ⟨fun e => awp_mid N R (h1 e) hn hr, fun e => awp_mid N R (h2 e) hn hr⟩
def isB (v : AV) (b : Nat) : Prop := match v with
  | .own b' _ _ => b' = b
  | _ => False
/-- a list of strings that is the walk's own -/
def sv (h : Hp) (m : Nat) (v : AV) : Prop := ∃ vs : List ByteArray, vs.length ≤ m ∧ ((vs = [] ∧ ∃ k, v = .sl .nil k []) ∨ ∃ b, v = .own b 0 vs.length ∧ h[b]? = some (.live 1 (vs.map encStr)))
theorem has_nil (G : Nat → AV) (k : Nat) (v : ByteArray) (h : Hp) : PCall (En G) 226 [.sl .nil k [], .str v] h (.bool false) := by
  refine acalls_of (H := Hint.none) (enM G) Tryz.func226 rfl (by kernel_rfl) (by kernel_rfl) (Nat.le_of_ble_eq_true (by kernel_rfl)) ?_
  show awp _ _ _ _ _ (endQ _ [.tmp 4] _)
  simp -implicitDefEqProofs only [awp_seq, awp_block, awp_reg, seqQ_n, WW_one, WW_nil, none_md, none_fz, frz_nil, ownOp, wc_app, wcont_s, ev_const, av_int, av_bool, x_assign, Option.getD_some, Bool.not_false, enP]
  refine awp_loop (fun n F H => F 0 = .sl .nil k [] ∧ F 5 = .int .i64 0 ∧ H = h) 0 ⟨rfl, rfl, rfl⟩ ?_
  rintro n F H ⟨f0, f5, rfl⟩
  simp -implicitDefEqProofs only [awp_seq, awp_reg, awp_cond, seqQ_n, WW_one, WW_nil, none_md, none_fz, frz_nil, ownOp, wc_app, wcont_s, upd_app, ev_tmp, x_move, x_bin, x_len, holdsO_ofO, bin_lss, ↓reduceIte, Nat.reduceEqDiff, Option.getD_some, Bool.not_false, enP, ln179, f0, f5, List.length_nil]
  have : decide ((0 : Int) < ((0 : Nat) : Int)) = false := by simp
  simp -implicitDefEqProofs only [awp_seq, awp_reg, awp_ret, awp_exit, seqQ_n, seqQ_e, blk_e, rnd_e, end_r, cond_f, WW_one, WW_nil, none_md, none_fz, frz_nil, ownOp, wc_app, wcont_s, upd_app, ev_const, av_bool, x_assign, ↓reduceIte, Option.getD_some, Bool.not_false, this]
  exact ⟨trivial, trivial⟩
theorem row_map {α : Type} {f : α → List AV} {xs : List α} {k : Nat} (hk : k < xs.length) : (xs.map f)[k]? = some (f xs[k]) := by
  rw [List.getElem?_map, List.getElem?_eq_getElem hk]; rfl
theorem below_getL {h x : Hp} {y : ABlk} {b : Nat} (hb : h[b]? = some y) : (h ++ x)[b]? = some y := by
  rw [List.getElem?_append_left (lt_of_getElem? hb)]; exact hb
theorem has_own (G : Nat → AV) (xs : List ByteArray) (b : Nat) (v : ByteArray) (h : Hp) (hb : h[b]? = some (.live 1 (xs.map encStr))) (hl : xs.length ≤ 1099511627776) :
    PCall (En G) 226 [.own b 0 xs.length, .str v] h (.bool (hasS xs v)) := by
  refine acalls_of (H := Hint.none) (enM G) Tryz.func226 rfl (by kernel_rfl) (by kernel_rfl) (Nat.le_of_ble_eq_true (by kernel_rfl)) ?_
  show awp _ _ _ _ _ (endQ _ [.tmp 4] _)
  simp -implicitDefEqProofs only [awp_seq, awp_block, awp_reg, seqQ_n, WW_one, WW_nil, none_md, none_fz, frz_nil, ownOp, wc_app, wcont_s, ev_const, av_int, av_bool, x_assign, Option.getD_some, Bool.not_false, enP]
  refine awp_loop (fun n F H => ∃ k, n + k = xs.length ∧ F 0 = .own b 0 xs.length ∧ F 1 = .str v ∧ F 5 = .int .i64 (k : Nat) ∧ H = h ∧ hasS xs v = hasS (xs.drop k) v) xs.length ⟨0, by simp, rfl, rfl, rfl, rfl, rfl⟩ ?_
  rintro n F H ⟨k, hk, f0, f1, f5, rfl, hin⟩
  simp -implicitDefEqProofs only [awp_seq, awp_reg, awp_cond, seqQ_n, WW_one, WW_nil, none_md, none_fz, frz_nil, ownOp, wc_app, wcont_s, upd_app, ev_tmp, x_move, x_bin, x_len, holdsO_ofO, bin_lss, ↓reduceIte, Nat.reduceEqDiff, Option.getD_some, Bool.not_false, enP, ln179, f0, f1, f5]
  refine cond_of (fun hc => ?_) (fun hc => ?_)
  · have hc' : k < xs.length := by simpa using hc
    have hs : hasS (xs.drop k) v = ((v.toList == xs[k].toList) || hasS (xs.drop (k+1)) v) := any_step _ xs k hc'
    have l1 : aLoad Tryz.prog H 9 (.ptr b k 0) = some (.str xs[k]) := by rw [load_row ag9 hb (row := encStr xs[k]) (row_map hc')]; rfl
    simp -implicitDefEqProofs only [awp_seq, awp_block, awp_reg, awp_skip, awp_cond, seqQ_n, WW_one, WW_nil, none_md, none_fz, frz_nil, ownOp, wc_app, wcont_s, upd_app, ev_tmp, x_move, x_load, x_bin, x_indexAddr, holdsO_ofO, bin_seql, ↓reduceIte, Nat.reduceEqDiff, Nat.zero_add, Option.getD_some, Bool.not_false, enP, ix179, f0, f1, f5, ix_own hb hc', l1]
    refine cond_of (fun hb => ?_) (fun hb => ?_)
    · simp -implicitDefEqProofs only [awp_seq, awp_reg, awp_ret, seqQ_n, seqQ_r, blk_r, rnd_r, end_r, WW_one, WW_nil, none_md, none_fz, frz_nil, ownOp, wc_app, wcont_s, upd_app, ev_const, av_bool, x_assign, ↓reduceIte, Option.getD_some, Bool.not_false]
      refine ⟨?_, trivial⟩
      rw [hin, hs, show (v.toList == xs[k].toList) = true by rw [BEq.comm]; exact hb]; rfl
    · simp -implicitDefEqProofs only [awp_reg, awp_skip, seqQ_n, blk_n, rnd_n, WW_one, WW_nil, none_md, none_fz, frz_nil, ownOp, wc_app, wcont_s, upd_app, ev_tmp, ev_const, av_int, x_move, x_assign, x_bin, holdsO_ofO, bin_add, ↓reduceIte, Nat.reduceEqDiff, Option.getD_some, Bool.not_false, enP, f5, wrap_succ (show k < 9223372036854775807 by omega)]
      refine ⟨n - 1, by omega, k + 1, by omega, f0, f1, rfl, trivial, ?_⟩
      rw [hin, hs, show (v.toList == xs[k].toList) = false by rw [BEq.comm]; exact hb]; rfl
  · have hc' : ¬ k < xs.length := by simpa using hc
    simp -implicitDefEqProofs only [awp_seq, awp_reg, awp_ret, awp_exit, seqQ_n, seqQ_e, blk_e, rnd_e, end_r, WW_one, WW_nil, none_md, none_fz, frz_nil, ownOp, wc_app, wcont_s, upd_app, ev_const, av_bool, x_assign, ↓reduceIte, Option.getD_some, Bool.not_false]
    exact ⟨by rw [hin, List.drop_eq_nil_of_le (by omega)]; rfl, trivial⟩
theorem has_sv (G : Nat → AV) {h : Hp} {m : Nat} {v : AV} (s : ByteArray) (hv : sv h m v) (hm : m ≤ 8388608) : ∃ r, PCall (En G) 226 [v, .str s] h (.bool r) := by
  obtain ⟨vs, hl, ⟨_, k, rfl⟩ | ⟨b, rfl, hb⟩⟩ := hv
  · exact ⟨_, has_nil G k s h⟩
  · exact ⟨_, has_own G vs b s h hb (by omega)⟩
theorem bs132 (h : Hp) (s : ByteArray) : aBuildSlice Tryz.prog false h 179 1 [(0, .str s)] = some (.sl .full 1 [[.str s]], h) := by kernel_rfl
theorem app_sv {h : Hp} {m : Nat} {v : AV} (s : ByteArray) (hv : sv h m v) (hm : m ≤ 8388608) : ∃ v' h', aAppend Tryz.prog true h 179 179 v (.sl .full 1 [[.str s]]) = some (v', h') ∧ sv h' (m + 1) v' ∧ (∀ b, isB v' b → b = h.length) ∧
    h.length ≤ h'.length ∧ ∀ b, b < h.length → ¬ isB v b → h'[b]? = h[b]? := by
  obtain ⟨vs, hl, ⟨rfl, k, rfl⟩ | ⟨b, rfl, hb⟩⟩ := hv
  · refine ⟨_, _, app_nil ud179 sz9 zs179 by179 (conts_sl h .full 1 [[.str s]]) (by simp) (room_of (by simp) (by omega)), ⟨[s], by simp, .inr ⟨h.length, rfl, top_get _ _⟩⟩, fun b hb => hb.symm, by simp, fun b hb _ => List.getElem?_append_left hb⟩
  · have hc : conts h (.own b 0 vs.length) = some (1, vs.map encStr) := by
      rw [conts_own hb (by simp), List.drop_zero, List.take_of_length_le (by simp)]
    refine ⟨_, _, app_own ud179 sz9 zs179 by179 hc (conts_sl h .full 1 [[.str s]]) (by simp) (room_of (by simp; omega) (by omega)), ⟨vs ++ [s], by simp; omega, .inr ⟨h.length, by simp, by simp [encStr]⟩⟩, fun b hb => hb.symm, by simp, fun o ho hn => ?_⟩
    rw [List.getElem?_append_left (by simpa using ho)]
    have hn' : ¬ b = o := hn
    rw [List.getElem?_set, if_neg hn']
/-- the walk's block -/
def wRow (n dd : Nat) (f : Int) (v1 v2 : AV) : List AV := [.int .i64 n, .int .i64 dd, .int .i64 f, v1, v2]
structure St (h : Hp) (c m1 m2 n dd : Nat) (f : Int) (v1 v2 : AV) : Prop where
  w : h[c]? = some (.live 5 [wRow n dd f v1 v2])
  s1 : sv h m1 v1
  s2 : sv h m2 v2
  ap : ∀ b, isB v1 b → ¬ isB v2 b
theorem sv.b {h : Hp} {m : Nat} {v : AV} {b : Nat} (hs : sv h m v) (hb : isB v b) : ∃ vs : List ByteArray, h[b]? = some (.live 1 (vs.map encStr)) := by
  obtain ⟨vs, _, ⟨_, k, rfl⟩ | ⟨b', rfl, h'⟩⟩ := hs
  · exact hb.elim
  · cases hb; exact ⟨vs, h'⟩
theorem sv.ne {h : Hp} {m b c : Nat} {v : AV} {row : List AV} (hs : sv h m v) (hc : h[c]? = some (.live 5 [row])) (hb : isB v b) : b ≠ c := by
  intro e; subst e
  obtain ⟨vs, h'⟩ := hs.b hb
  rw [h'] at hc; cases hc
theorem sv.keep {h h' : Hp} {m m' : Nat} {v : AV} (hs : sv h m v) (hm : m ≤ m') (hk : ∀ b, isB v b → h'[b]? = h[b]?) : sv h' m' v := by
  obtain ⟨vs, hl, ⟨e, k, rfl⟩ | ⟨b, rfl, hb⟩⟩ := hs
  · exact ⟨vs, by omega, .inl ⟨e, k, rfl⟩⟩
  · exact ⟨vs, by omega, .inr ⟨b, rfl, by rw [hk b rfl]; exact hb⟩⟩
/-- what the walk leaves as it was -/
structure Ch (c : Nat) (v1 v2 : AV) (h : Hp) (v1' v2' : AV) (h' : Hp) : Prop where
  len : h.length ≤ h'.length
  get : ∀ b, b < h.length → b ≠ c → ¬ isB v1 b → ¬ isB v2 b → h'[b]? = h[b]?
  n1 : ∀ b, isB v1' b → isB v1 b ∨ h.length ≤ b
  n2 : ∀ b, isB v2' b → isB v2 b ∨ h.length ≤ b
theorem Ch.refl (c : Nat) (v1 v2 : AV) (h : Hp) : Ch c v1 v2 h v1 v2 h := ⟨Nat.le_refl _, fun _ _ _ _ _ => rfl, fun _ h => .inl h, fun _ h => .inl h⟩
theorem Ch.trans {c : Nat} {v1 v2 u1 u2 w1 w2 : AV} {a b d : Hp} (h1 : Ch c v1 v2 a u1 u2 b) (h2 : Ch c u1 u2 b w1 w2 d) : Ch c v1 v2 a w1 w2 d := by
  refine ⟨Nat.le_trans h1.len h2.len, fun i hi hc hv hu => ?_, fun i hi => ?_, fun i hi => ?_⟩
  · rw [h2.get i (Nat.lt_of_lt_of_le hi h1.len) hc (fun e => (h1.n1 i e).elim hv (fun e => by omega)) (fun e => (h1.n2 i e).elim hu (fun e => by omega)), h1.get i hi hc hv hu]
  · rcases h2.n1 i hi with h | h
    · exact h1.n1 i h
    · exact .inr (Nat.le_trans h1.len h)
  · rcases h2.n2 i hi with h | h
    · exact h1.n2 i h
    · exact .inr (Nat.le_trans h1.len h)
theorem Ch.app (c : Nat) (v1 v2 : AV) (h x : Hp) : Ch c v1 v2 h v1 v2 (h ++ x) := ⟨by simp, fun _ hi _ _ _ => List.getElem?_append_left hi, fun _ h => .inl h, fun _ h => .inl h⟩
theorem Ch.set (c : Nat) (v1 v2 : AV) (h : Hp) (x : ABlk) : Ch c v1 v2 h v1 v2 (h.set c x) := ⟨by simp, fun _ _ hc _ _ => by rw [List.getElem?_set, if_neg (fun e => hc e.symm)], fun _ h => .inl h, fun _ h => .inl h⟩
theorem St.app {h : Hp} {c m1 m2 n dd : Nat} {f : Int} {v1 v2 : AV} (s : St h c m1 m2 n dd f v1 v2) (x : Hp) : St (h ++ x) c m1 m2 n dd f v1 v2 := by
  have keep : ∀ v m, sv h m v → sv (h ++ x) m v := fun v m hv => hv.keep (Nat.le_refl _) fun b hb => by
    obtain ⟨vs, h'⟩ := hv.b hb
    exact List.getElem?_append_left (lt_of_getElem? h')
  exact ⟨below_getL s.w, keep _ _ s.s1, keep _ _ s.s2, s.ap⟩
theorem St.set {h : Hp} {c m1 m2 n dd : Nat} {f : Int} {v1 v2 : AV} (s : St h c m1 m2 n dd f v1 v2) (n' dd' : Nat) (f' : Int) : St (h.set c (.live 5 [wRow n' dd' f' v1 v2])) c m1 m2 n' dd' f' v1 v2 := by
  have keep : ∀ v m, sv h m v → sv (h.set c (.live 5 [wRow n' dd' f' v1 v2])) m v := fun v m hv => hv.keep (Nat.le_refl _) fun b hb => by
    rw [List.getElem?_set, if_neg (fun e => hv.ne s.w hb e.symm)]
  exact ⟨get_set_eq s.w, keep _ _ s.s1, keep _ _ s.s2, s.ap⟩
section
variable {h : Hp} {c m1 m2 n dd : Nat} {f : Int} {v1 v2 : AV} (s : St h c m1 m2 n dd f v1 v2)
include s
theorem St.l0 : aLoad Tryz.prog h 3 (.ptr c 0 0) = some (.int .i64 n) := by rw [load_row ag3 s.w (row := wRow n dd f v1 v2) rfl]; rfl
theorem St.l1 : aLoad Tryz.prog h 3 (.ptr c 0 1) = some (.int .i64 dd) := by rw [load_row ag3 s.w (row := wRow n dd f v1 v2) rfl]; rfl
theorem St.l2 : aLoad Tryz.prog h 38 (.ptr c 0 2) = some (.int .i64 f) := by rw [load_row ag38 s.w (row := wRow n dd f v1 v2) rfl]; rfl
theorem St.l3 : aLoad Tryz.prog h 179 (.ptr c 0 3) = some v1 := by rw [load_row ag179 s.w (row := wRow n dd f v1 v2) rfl]; rfl
theorem St.l4 : aLoad Tryz.prog h 179 (.ptr c 0 4) = some v2 := by rw [load_row ag179 s.w (row := wRow n dd f v1 v2) rfl]; rfl
theorem St.t0 (x : Nat) : aStore Tryz.prog h 3 (.ptr c 0 0) (.int .i64 x) = some (h.set c (.live 5 [wRow x dd f v1 v2])) := by
  rw [store_row (ac_int _ _) sz3 s.w (row := wRow n dd f v1 v2) rfl (by simp [wRow])]; rfl
theorem St.t1 (x : Nat) : aStore Tryz.prog h 3 (.ptr c 0 1) (.int .i64 x) = some (h.set c (.live 5 [wRow n x f v1 v2])) := by
  rw [store_row (ac_int _ _) sz3 s.w (row := wRow n dd f v1 v2) rfl (by simp [wRow])]; rfl
theorem St.t2 (x : Int) : aStore Tryz.prog h 38 (.ptr c 0 2) (.int .i64 x) = some (h.set c (.live 5 [wRow n dd x v1 v2])) := by
  rw [store_row (ac_int _ _) sz38 s.w (row := wRow n dd f v1 v2) rfl (by simp [wRow])]; rfl
end

/-- appending to the one list or the other, and writing it down -/
theorem St.app3 {h : Hp} {c m1 m2 n dd : Nat} {f : Int} {v1 v2 : AV} (s : St h c m1 m2 n dd f v1 v2) (x : ByteArray) (hm : m1 ≤ 8388608) :
    ∃ v' h', aAppend Tryz.prog true h 179 179 v1 (.sl .full 1 [[.str x]]) = some (v', h') ∧ aStore Tryz.prog h' 179 (.ptr c 0 3) v' = some (h'.set c (.live 5 [wRow n dd f v' v2])) ∧
      St (h'.set c (.live 5 [wRow n dd f v' v2])) c (m1 + 1) m2 n dd f v' v2 ∧ Ch c v1 v2 h v' v2 (h'.set c (.live 5 [wRow n dd f v' v2])) := by
  obtain ⟨v', h', ha, hs, hb, hl, hk⟩ := app_sv x s.s1 hm
  have hc1 : ¬ isB v1 c := fun e => s.s1.ne s.w e rfl
  have hc2 : ¬ isB v2 c := fun e => s.s2.ne s.w e rfl
  have hcl := lt_of_getElem? s.w
  have hw : h'[c]? = some (.live 5 [wRow n dd f v1 v2]) := by rw [hk c hcl hc1]; exact s.w
  have hvc : ∀ b, isB v' b → b ≠ c := fun b hb' e => by have := hb b hb'; omega
  have hac : acells v' = some [v'] := by
    obtain ⟨vs, _, ⟨_, k, rfl⟩ | ⟨b, rfl, _⟩⟩ := hs <;> rfl
  refine ⟨v', h', ha, by rw [store_row hac sz179 hw (row := wRow n dd f v1 v2) rfl (by simp [wRow])]; rfl, ⟨get_set_eq hw, hs.keep (Nat.le_refl _) fun b hb' => ?_, s.s2.keep (Nat.le_refl _) fun b hb' => ?_, fun b h1 h2 => ?_⟩, ⟨by simpa using hl, fun b hbl hne h1 h2 => ?_, fun b hb' => .inr (by rw [hb b hb']; exact Nat.le_refl _), fun b hb' => .inl hb'⟩⟩
  · rw [List.getElem?_set, if_neg (fun e => hvc b hb' e.symm)]
  · obtain ⟨_, hx⟩ := s.s2.b hb'
    rw [List.getElem?_set, if_neg (fun e => hc2 (by rw [e]; exact hb')), hk b (lt_of_getElem? hx) (fun e => s.ap b e hb')]
  · obtain ⟨_, hx⟩ := s.s2.b h2
    have := hb b h1; have := lt_of_getElem? hx; omega
  · rw [List.getElem?_set, if_neg (fun e => hne e.symm), hk b hbl h1]
theorem St.app4 {h : Hp} {c m1 m2 n dd : Nat} {f : Int} {v1 v2 : AV} (s : St h c m1 m2 n dd f v1 v2) (x : ByteArray) (hm : m2 ≤ 8388608) :
    ∃ v' h', aAppend Tryz.prog true h 179 179 v2 (.sl .full 1 [[.str x]]) = some (v', h') ∧ aStore Tryz.prog h' 179 (.ptr c 0 4) v' = some (h'.set c (.live 5 [wRow n dd f v1 v'])) ∧
      St (h'.set c (.live 5 [wRow n dd f v1 v'])) c m1 (m2 + 1) n dd f v1 v' ∧ Ch c v1 v2 h v1 v' (h'.set c (.live 5 [wRow n dd f v1 v'])) := by
  obtain ⟨v', h', ha, hs, hb, hl, hk⟩ := app_sv x s.s2 hm
  have hc1 : ¬ isB v1 c := fun e => s.s1.ne s.w e rfl
  have hc2 : ¬ isB v2 c := fun e => s.s2.ne s.w e rfl
  have hcl := lt_of_getElem? s.w
  have hw : h'[c]? = some (.live 5 [wRow n dd f v1 v2]) := by rw [hk c hcl hc2]; exact s.w
  have hvc : ∀ b, isB v' b → b ≠ c := fun b hb' e => by have := hb b hb'; omega
  have hac : acells v' = some [v'] := by
    obtain ⟨vs, _, ⟨_, k, rfl⟩ | ⟨b, rfl, _⟩⟩ := hs <;> rfl
  refine ⟨v', h', ha, by rw [store_row hac sz179 hw (row := wRow n dd f v1 v2) rfl (by simp [wRow])]; rfl, ⟨get_set_eq hw, s.s1.keep (Nat.le_refl _) fun b hb' => ?_, hs.keep (Nat.le_refl _) fun b hb' => ?_, fun b h1 h2 => ?_⟩, ⟨by simpa using hl, fun b hbl hne h1 h2 => ?_, fun b hb' => .inl hb', fun b hb' => .inr (by rw [hb b hb']; exact Nat.le_refl _)⟩⟩
  · obtain ⟨_, hx⟩ := s.s1.b hb'
    rw [List.getElem?_set, if_neg (fun e => hc1 (by rw [e]; exact hb')), hk b (lt_of_getElem? hx) (fun e => s.ap b hb' e)]
  · rw [List.getElem?_set, if_neg (fun e => hvc b hb' e.symm)]
  · obtain ⟨_, hx⟩ := s.s1.b h1
    have := hb b h2; have := lt_of_getElem? hx; omega
  · rw [List.getElem?_set, if_neg (fun e => hne e.symm), hk b hbl h2]
def errF (z : Int) (xs : List Ex) : Int := xs.foldl (fun z e => if z = 0 then nodeE e else z) z
theorem errF_app (z : Int) (xs ys : List Ex) : errF z (xs ++ ys) = errF (errF z xs) ys := List.foldl_append
end Go.Proofs.YtocilianjfhifaaGreatDoor.Cov
/- The reference's Valid of expressions; no condition. -/
set_option linter.unusedSimpArgs false
set_option maxRecDepth 8000
namespace Go.Proofs.YtocilianjfhifaaGreatDoor.Cov
open Go Go.Proofs Go.Proofs.YtocilianjfhifaaGreatDoor.Sm Go.Proofs.YtocilianjfhifaaGreatDoor.Bins Go.RowKit

theorem St.weak {h : Hp} {c m1 m2 m1' m2' n dd : Nat} {f : Int} {v1 v2 : AV} (s : St h c m1 m2 n dd f v1 v2) (h1 : m1 ≤ m1') (h2 : m2 ≤ m2') : St h c m1' m2' n dd f v1 v2 :=
  ⟨s.w, s.s1.keep h1 fun _ _ => rfl, s.s2.keep h2 fun _ _ => rfl, s.ap⟩
def Md (e : Ex) (c d : Nat) (v1 v2 : AV) (h : Hp) (m1 m2 n dd : Nat) (f : Int) (F : Nat → AV) (H : Hp) : Prop :=
  F 0 = .ptr c 0 0 ∧ F 2 = .int .i64 (d : Nat) ∧ F 4 = .ptr h.length 0 0 ∧ ∃ u1 u2, St H c m1 m2 n dd f u1 u2 ∧ Ch c v1 v2 (h ++ [.live 4 [encE e]]) u1 u2 H
theorem pres_wts (xs : List Ex) : (pres xs).length ≤ wts xs := by
  induction xs with
  | nil => simp [pres, wts]
  | cons x xs ih => have := pre_wt x; simp only [pres, wts, List.length_append]; omega
theorem wts_take : ∀ (xs : List Ex) (j : Nat) (hj : j < xs.length), wts (xs.take j) + wt xs[j] ≤ wts xs
  | x :: xs, 0, _ => by simp [wts]
  | x :: xs, j + 1, h => by
    have := wts_take xs j (by simpa using h)
    simp only [List.take_succ_cons, wts, List.getElem_cons_succ]; omega
theorem deps_take_le : ∀ (xs : List Ex) (j : Nat), deps (xs.take j) ≤ wts xs
  | [], j => by simp [deps, wts]
  | x :: xs, 0 => by simp [deps]
  | x :: xs, j + 1 => by
    have h1 := deps_take_le xs j
    have h2 := dep_wt x
    simp only [List.take_succ_cons, deps, wts]; omega
theorem see_ref (G : Nat → AV) (c : Nat) (e : Ex) : wt e ≤ 1048576 → ∀ (h : Hp) (d n dd : Nat) (f : Int) (v1 v2 : AV), d + wt e ≤ 8388608 → n + wt e ≤ 8388608 → dd ≤ 16777216 → St h c n n n dd f v1 v2 →
    ACalls (En G) 193 [.ptr c 0 0, .agg (encE e), .int .i64 (d : Nat)] h fun _ h' => ∃ u1 u2, St h' c (n + (pre e).length) (n + (pre e).length) (n + (pre e).length) (max dd (d + deps e.args)) (errF f (pre e)) u1 u2 ∧ Ch c v1 v2 h u1 u2 h' := by
  induction e using Ex.induct with | h e ih => ?_
  intro hw h d n dd f v1 v2 hd hn hdd s
  have hal : e.args.length ≤ wts e.args := wts_len e.args
  have hwe := wt_eq e
  have hcl := lt_of_getElem? s.w
  have hbox : ∀ (u1 u2 : AV) (H : Hp), Ch c v1 v2 (h ++ [.live 4 [encE e]]) u1 u2 H → H[h.length]? = some (.live 4 [encE e]) := by
    intro u1 u2 H hC
    rw [hC.get h.length (by simp) (by omega) (fun hb => ?_) (fun hb => ?_)]
    · exact top_get _ _
    · obtain ⟨_, hx⟩ := s.s1.b hb
      have := lt_of_getElem? hx; omega
    · obtain ⟨_, hx⟩ := s.s2.b hb
      have := lt_of_getElem? hx; omega
  have lb0 : ∀ H : Hp, H[h.length]? = some (.live 4 [encE e]) → aLoad Tryz.prog H 3 (.ptr h.length 0 0) = some (.int .i64 e.op) := fun H hH => by rw [load_row ag3 hH (row := encE e) rfl, encE0]
  have lb2 : ∀ H : Hp, H[h.length]? = some (.live 4 [encE e]) → aLoad Tryz.prog H 9 (.ptr h.length 0 2) = some (.str e.name) := fun H hH => by rw [load_row ag9 hH (row := encE e) rfl, encE2]
  have lb3 : ∀ H : Hp, H[h.length]? = some (.live 4 [encE e]) → aLoad Tryz.prog H 51 (.ptr h.length 0 3) = some (.sl e.m 4 (e.args.map encE)) := fun H hH => by rw [load_row ag51 hH (row := encE e) rfl, encE3]
  refine acalls_of (H := hint [56, 85] []) (enM G) Tryz.func193 rfl (by kernel_rfl) (by kernel_rfl) (Nat.le_of_ble_eq_true (by kernel_rfl)) ?_
  show awp _ _ _ _ _ (endQ _ [] _)
  have s0 := s.app [.live 4 [encE e]]
  have c0 := Ch.app c v1 v2 h [.live 4 [encE e]]
  simp -implicitDefEqProofs only [hint_md, List.contains_cons, List.contains_nil, Nat.reduceBEq, Bool.or_false, awp_seq, awp_reg, seqQ_n, WW_one, WW_nil, frz_nil, ownOp, wc_app, wcont_s, wcont_n, upd_app, ev_tmp, ev_const, av_int, x_move, x_box, x_load, x_store, x_bin, x_fieldAddr, holdsO_some, holdsO_ofO, holdsO_ofS, bin_add, frameOf_zero, frameOf_succ, ↓reduceIte, Nat.reduceEqDiff, Nat.add_zero, Nat.zero_add, Option.getD_some, Bool.not_false, enP, fa181_0, fa181_1, hint_fz0, Option.getD_none, x_nilCheck, nilA_ptr, bxE, s0.l0, wrap_succ (show n < 9223372036854775807 by omega), s0.t0]
  have s1 := s0.set (n + 1) dd f
  have c1 := Ch.set c v1 v2 (h ++ [.live 4 [encE e]]) (.live 5 [wRow (n + 1) dd f v1 v2])
  clear s0
  generalize (h ++ [ABlk.live 4 [encE e]]).set c (.live 5 [wRow (n + 1) dd f v1 v2]) = H1 at s1 c1 ⊢
  simp -implicitDefEqProofs only [hint_md, List.contains_cons, List.contains_nil, Nat.reduceBEq, Bool.or_false, awp_cond, seqQ_n, WW_one, WW_nil, frz_nil, ownOp, wc_app, wcont_s, upd_app, ev_tmp, x_bin, holdsO_ofO, bin_gtr, ↓reduceIte, Nat.reduceEqDiff, Option.getD_some, Bool.not_false, enP, hint_fz0, s1.l1]
  refine cond_mid (Md e c d v1 v2 h n n (n + 1) (max dd d) f) (fun _ _ => False) (fun hb => ?_) (fun hb => ?_) ?_ (fun _ _ hh => hh.elim)
  · simp -implicitDefEqProofs only [hint_md, List.contains_cons, List.contains_nil, Nat.reduceBEq, Bool.or_false, awp_reg, mid_n, WW_one, WW_nil, frz_nil, ownOp, wc_app, wcont_s, wcont_n, upd_app, ev_tmp, x_move, x_store, x_fieldAddr, holdsO_ofO, holdsO_ofS, frameOf_zero, frameOf_succ, ↓reduceIte, Nat.reduceEqDiff, Nat.zero_add, Option.getD_some, Bool.not_false, enP, fa181_1, hint_fz0, Option.getD_none, x_nilCheck, nilA_ptr, s1.t1]
    refine ⟨rfl, rfl, rfl, v1, v2, ?_, c1.trans (Ch.set c _ _ _ _)⟩
    have : max dd d = d := by simp at hb; omega
    rw [this]
    exact s1.set (n + 1) d f
  · simp -implicitDefEqProofs only [awp_skip, mid_n]
    refine ⟨rfl, rfl, rfl, v1, v2, ?_, c1⟩
    have : max dd d = dd := by simp at hb; omega
    rw [this]
    exact s1
  clear s1 c1
  rintro F H ⟨f0, f2, f4, u1, u2, s, hC⟩
  simp -implicitDefEqProofs only [hint_md, List.contains_cons, List.contains_nil, Nat.reduceBEq, Bool.or_false, awp_seq, awp_reg, awp_cond, seqQ_n, WW_one, WW_nil, frz_nil, ownOp, wc_app, wcont_s, upd_app, ev_tmp, ev_const, av_int, x_move, x_load, x_bin, x_fieldAddr, holdsO_ofO, bin_eql, ↓reduceIte, Nat.zero_add, Option.getD_some, Bool.not_false, enP, fa181_2, hint_fz0, x_nilCheck, nilA_ptr, f0, s.l2]
  refine cond_mid (Md e c d v1 v2 h n n (n + 1) (max dd d) (errF f [e])) (fun _ _ => False) (fun hb => ?_) (fun hb => ?_) ?_ (fun _ _ hh => hh.elim)
  · simp -implicitDefEqProofs only [hint_md, List.contains_cons, List.contains_nil, Nat.reduceBEq, Bool.or_false, awp_reg, WW_one, frz_nil, ownOp, wc_app, wcont_s, upd_app, ev_tmp, ev_func, x_move, x_load, X1_call, callA_fn, holdsO_ofO, List.map_cons, List.map_nil, List.append_nil, ↓reduceIte, Nat.reduceEqDiff, Option.getD_some, Bool.not_false, enP, hint_fz0, f0, f2, f4, ldE_at (hbox _ _ _ hC)]
    refine (wrong_ref G e _ (by omega)).use ?_
    simp -implicitDefEqProofs only [hint_md, List.contains_cons, List.contains_nil, Nat.reduceBEq, Bool.or_false, mid_n, WW_one, WW_nil, frz_nil, ownOp, wc_app, wcont_s, wcont_n, upd_app, ev_tmp, x_store, x_fieldAddr, holdsO_ofO, holdsO_ofS, ↓reduceIte, Nat.reduceEqDiff, Nat.zero_add, Option.getD_some, Bool.not_false, enP, fa181_2, hint_fz0, Option.getD_none, x_nilCheck, nilA_ptr, s.t2, f0, f2, f4]
    refine ⟨f0, f2, f4, u1, u2, ?_, hC.trans (Ch.set c _ _ _ _)⟩
    have : errF f [e] = nodeE e := by
      have : f = 0 := by simpa using hb
      subst this; rfl
    rw [this]
    exact s.set _ _ _
  · simp -implicitDefEqProofs only [awp_skip, mid_n]
    refine ⟨f0, f2, f4, u1, u2, ?_, hC⟩
    have : errF f [e] = f := by
      have : f ≠ 0 := by simpa using hb
      show (if f = 0 then nodeE e else f) = f
      rw [if_neg this]
    rw [this]; exact s
  clear f0 f2 f4 s hC
  rintro F H ⟨f0, f2, f4, u1, u2, s, hC⟩
  simp -implicitDefEqProofs only [awp_seq, seqQ_n]
  refine awp_draw (by kernel_rfl) ?_
  have hB := hbox _ _ _ hC
  refine DD_mid (fun F H => (∃ b, F 47 = .bool b) ∧ Md e c d v1 v2 h n n (n + 1) (max dd d) (errF f [e]) F H) ?_ ?_
  · cases b2 : (e.op == 2)
    · simp -implicitDefEqProofs only [YO_f, hint_md, List.contains_cons, List.contains_nil, Nat.reduceBEq, Bool.or_false, dc_app, dcont_s, DD_nil, DD_one, DD_guardE, GY_some, GD_tf, y_move, y_pick, y_load, y_bin, y_fieldAddr, gdstO, upd_app, aput, ev_tmp, ev_const, av_int, av_bool, x_pick, pick_f, x_load, x_bin, x_fieldAddr, holdsO_ofO, bin_eql, ↓reduceIte, Nat.reduceEqDiff, Nat.reduceAdd, Nat.add_zero, Option.getD_some, enP, fa53_0, f0, f2, f4, lb0 _ hB, b2]
      exact ⟨⟨_, rfl⟩, f0, f2, f4, u1, u2, s, hC⟩
    · obtain ⟨r, hr⟩ := has_sv G e.name s.s1 (by omega)
      simp -implicitDefEqProofs only [YO_f, hint_md, List.contains_cons, List.contains_nil, Nat.reduceBEq, Bool.or_false, dc_app, dcont_s, DD_one, DD_guardE, GY_some, GD_tt, y_move, y_load, y_bin, y_un, y_fieldAddr, Y1_call, callP_fn, gdstO, upd_app, ev_tmp, ev_const, ev_func, av_int, x_load, x_bin, x_un, x_fieldAddr, holdsO_ofO, bin_eql, List.map_cons, List.map_nil, List.append_nil, ↓reduceIte, Nat.reduceEqDiff, Nat.reduceAdd, Nat.add_zero, Nat.zero_add, Option.getD_some, enP, fa53_0, fa53_2, fa181_3, x_nilCheck, y_nilCheck, nilA_ptr, f0, f2, f4, lb0 _ hB, lb2 _ hB, b2, s.l3]
      refine ⟨_, hr, ?_⟩
      simp -implicitDefEqProofs only [YO_f, hint_md, List.contains_cons, List.contains_nil, Nat.reduceBEq, Bool.or_false, dc_app, dcont_s, DD_nil, DD_one, y_pick, upd_app, ev_tmp, ev_const, av_bool, x_pick, pick_t, holdsO_ofO, un_not, ↓reduceIte, Nat.reduceEqDiff, Nat.reduceAdd, Option.getD_some, f0, f2, f4]
      exact ⟨⟨_, rfl⟩, f0, f2, f4, u1, u2, s, hC⟩
  clear f0 f2 f4 s hC hB
  rintro F H ⟨⟨b, f47⟩, f0, f2, f4, u1, u2, s, hC⟩
  have hB := hbox _ _ _ hC
  simp -implicitDefEqProofs only [awp_cond, seqQ_n, ev_tmp, f47]
  refine cond_mid (Md e c d v1 v2 h (n + 1) n (n + 1) (max dd d) (errF f [e])) (fun _ _ => False) (fun hb => ?_) (fun hb => ?_) ?_ (fun _ _ hh => hh.elim)
  · obtain ⟨v', H', ha, ht, s', hC'⟩ := s.app3 e.name (by omega)
    refine awp_draw (by kernel_rfl) ?_
    simp -implicitDefEqProofs only [YO_f, evp_nil, evp_cons, hint_md, List.contains_cons, List.contains_nil, Nat.reduceBEq, Bool.or_false, dc_app, dcont_s, dcont_n, DD_nil, DD_one, y_move, y_buildSlice, y_load, y_store, y_fieldAddr, y_builtin, mid_n, upd_app, ev_tmp, x_buildSlice, x_load, x_store, x_fieldAddr, x_append, holdsO_some, holdsO_ofO, holdsO_ofS, ↓reduceIte, Nat.reduceEqDiff, Nat.reduceAdd, Nat.zero_add, Option.getD_some, enP, fa53_2, fa181_3, Option.getD_none, x_nilCheck, y_nilCheck, nilA_ptr, f0, f2, f4, lb2 _ hB, s.l3, bs132, ha, ht]
    exact ⟨f0, f2, f4, _, _, s', hC.trans hC'⟩
  · simp -implicitDefEqProofs only [awp_skip, mid_n]
    exact ⟨f0, f2, f4, _, _, s.weak (by omega) (by omega), hC⟩
  clear f0 f2 f4 s hC hB
  rintro F H ⟨f0, f2, f4, u1, u2, s, hC⟩
  have hB := hbox _ _ _ hC
  simp -implicitDefEqProofs only [awp_seq, seqQ_n]
  refine awp_draw (by kernel_rfl) ?_
  refine DD_mid (fun F H => (∃ b, F 76 = .bool b) ∧ Md e c d v1 v2 h (n + 1) n (n + 1) (max dd d) (errF f [e]) F H) ?_ ?_
  · obtain ⟨r, hr⟩ := has_sv G e.name s.s2 (by omega)
    cases b2 : (e.op == 3)
    · cases b3 : (e.op == 24)
      · simp -implicitDefEqProofs only [YO_f, hint_md, List.contains_cons, List.contains_nil, Nat.reduceBEq, Bool.or_false, dc_app, dcont_s, DD_nil, DD_one, DD_guardE, GY_some, GD_ff, GD_tf, y_move, y_pick, y_load, y_bin, y_fieldAddr, gdstO, upd_app, aput, ev_tmp, ev_const, av_int, av_bool, x_pick, pick_f, x_load, x_bin, x_fieldAddr, holdsO_ofO, bin_eql, ↓reduceIte, Nat.reduceEqDiff, Nat.reduceAdd, Nat.add_zero, Option.getD_some, enP, fa53_0, f0, f2, f4, lb0 _ hB, b2, b3]
        exact ⟨⟨_, rfl⟩, f0, f2, f4, u1, u2, s, hC⟩
      · simp -implicitDefEqProofs only [YO_f, hint_md, List.contains_cons, List.contains_nil, Nat.reduceBEq, Bool.or_false, dc_app, dcont_s, DD_one, DD_guardE, GY_some, GD_tt, GD_ff, y_move, y_pick, y_load, y_bin, y_un, y_fieldAddr, Y1_call, callP_fn, gdstO, upd_app, ev_tmp, ev_const, ev_func, av_int, av_bool, x_pick, pick_f, x_load, x_bin, x_un, x_fieldAddr, holdsO_ofO, bin_eql, List.map_cons, List.map_nil, List.append_nil, ↓reduceIte, Nat.reduceEqDiff, Nat.reduceAdd, Nat.add_zero, Nat.zero_add, Option.getD_some, enP, fa53_0, fa53_2, fa181_4, x_nilCheck, y_nilCheck, nilA_ptr, f0, f2, f4, lb0 _ hB, lb2 _ hB, b2, b3, s.l4]
        refine ⟨_, hr, ?_⟩
        simp -implicitDefEqProofs only [YO_f, hint_md, List.contains_cons, List.contains_nil, Nat.reduceBEq, Bool.or_false, dc_app, dcont_s, DD_nil, DD_one, y_pick, upd_app, ev_tmp, ev_const, av_bool, x_pick, pick_t, holdsO_ofO, un_not, ↓reduceIte, Nat.reduceEqDiff, Nat.reduceAdd, Option.getD_some, f0, f2, f4]
        exact ⟨⟨_, rfl⟩, f0, f2, f4, u1, u2, s, hC⟩
    · simp -implicitDefEqProofs only [YO_f, hint_md, List.contains_cons, List.contains_nil, Nat.reduceBEq, Bool.or_false, dc_app, dcont_s, DD_one, DD_guardE, GY_some, GD_tt, GD_ft, y_move, y_pick, y_load, y_bin, y_un, y_fieldAddr, Y1_call, callP_fn, gdstO, upd_app, aput, ev_tmp, ev_const, ev_func, av_int, av_bool, x_pick, pick_t, x_load, x_bin, x_un, x_fieldAddr, holdsO_ofO, bin_eql, List.map_cons, List.map_nil, List.append_nil, ↓reduceIte, Nat.reduceEqDiff, Nat.reduceAdd, Nat.add_zero, Nat.zero_add, Option.getD_some, enP, fa53_0, fa53_2, fa181_4, x_nilCheck, y_nilCheck, nilA_ptr, f0, f2, f4, lb0 _ hB, lb2 _ hB, b2, s.l4]
      refine ⟨_, hr, ?_⟩
      simp -implicitDefEqProofs only [YO_f, hint_md, List.contains_cons, List.contains_nil, Nat.reduceBEq, Bool.or_false, dc_app, dcont_s, DD_nil, DD_one, y_pick, upd_app, ev_tmp, ev_const, av_bool, x_pick, pick_t, holdsO_ofO, un_not, ↓reduceIte, Nat.reduceEqDiff, Nat.reduceAdd, Option.getD_some, f0, f2, f4]
      exact ⟨⟨_, rfl⟩, f0, f2, f4, u1, u2, s, hC⟩
  clear f0 f2 f4 s hC hB f47
  rintro F H ⟨⟨b, f76⟩, f0, f2, f4, u1, u2, s, hC⟩
  have hB := hbox _ _ _ hC
  simp -implicitDefEqProofs only [awp_cond, seqQ_n, ev_tmp, f76]
  refine cond_mid (Md e c d v1 v2 h (n + 1) (n + 1) (n + 1) (max dd d) (errF f [e])) (fun _ _ => False) (fun hb => ?_) (fun hb => ?_) ?_ (fun _ _ hh => hh.elim)
  · obtain ⟨v', H', ha, ht, s', hC'⟩ := s.app4 e.name (by omega)
    refine awp_draw (by kernel_rfl) ?_
    simp -implicitDefEqProofs only [YO_f, evp_nil, evp_cons, hint_md, List.contains_cons, List.contains_nil, Nat.reduceBEq, Bool.or_false, Bool.or_true, dc_app, dcont_s, dcont_n, DD_nil, DD_one, y_move, y_buildSlice, y_load, y_store, y_fieldAddr, y_builtin, mid_n, upd_app, ev_tmp, x_buildSlice, x_load, x_store, x_fieldAddr, x_append, holdsO_some, holdsO_ofO, holdsO_ofS, ↓reduceIte, Nat.reduceEqDiff, Nat.reduceAdd, Nat.zero_add, Option.getD_some, enP, fa53_2, fa181_4, Option.getD_none, x_nilCheck, y_nilCheck, nilA_ptr, f0, f2, f4, lb2 _ hB, s.l4, bs132, ha, ht]
    exact ⟨f0, f2, f4, _, _, s', hC.trans hC'⟩
  · simp -implicitDefEqProofs only [awp_skip, mid_n]
    exact ⟨f0, f2, f4, _, _, s.weak (by omega) (by omega), hC⟩
  clear f0 f2 f4 s hC hB f76
  rintro F H ⟨f0, f2, f4, u1, u2, s, hC⟩
  simp -implicitDefEqProofs only [hint_md, List.contains_cons, List.contains_nil, Nat.reduceBEq, Bool.or_false, awp_seq, awp_block, awp_reg, seqQ_n, WW_one, WW_nil, frz_nil, ownOp, wc_app, wcont_s, ev_const, av_int, x_assign, Option.getD_some, Bool.not_false, hint_fz0]
  refine awp_loop (fun k F H => ∃ j, k + j = e.args.length ∧ F 6 = .int .i64 (j : Nat) ∧ Md e c d v1 v2 h (n + 1 + (pres (e.args.take j)).length) (n + 1 + (pres (e.args.take j)).length) (n + 1 + (pres (e.args.take j)).length) (max dd (d + deps (e.args.take j))) (errF (errF f [e]) (pres (e.args.take j))) F H) e.args.length ⟨0, by simp, rfl, f0, f2, f4, u1, u2, s, hC⟩ ?_
  clear f0 f2 f4 s hC
  rintro k F H ⟨j, hj, f6, f0, f2, f4, u1, u2, s, hC⟩
  have hB := hbox _ _ _ hC
  simp -implicitDefEqProofs only [hint_md, List.contains_cons, List.contains_nil, Nat.reduceBEq, Bool.or_false, awp_seq, awp_reg, awp_cond, seqQ_n, WW_one, WW_nil, frz_nil, ownOp, wc_app, wcont_s, upd_app, ev_tmp, x_move, x_load, x_bin, x_fieldAddr, x_len, holdsO_ofO, bin_lss, ↓reduceIte, Nat.reduceEqDiff, Nat.zero_add, Option.getD_some, Bool.not_false, enP, ln51, fa53_3, hint_fz0, f6, f4, lb3 _ hB, List.length_map]
  refine cond_of (fun hlt => ?_) (fun hlt => ?_)
  · have hj' : j < e.args.length := by simpa using hlt
    have hmem : e.args[j] ∈ e.args := List.getElem_mem hj'
    have hwa := wts_mem hmem
    have hpl : (pres (e.args.take j)).length + (pre e.args[j]).length ≤ wts e.args := by
      have h1 := pres_wts e.args
      have h2 : pres e.args = pres (e.args.take j) ++ (pre e.args[j] ++ pres (e.args.drop (j + 1))) := by
        rw [← List.append_assoc, ← pres_take _ _ hj', ← pres_append, List.take_append_drop]
      rw [h2] at h1; simp at h1; omega
    have hsp : (pres (e.args.take j)).length + wt e.args[j] ≤ wts e.args := by
      have h1 := pres_wts (e.args.take j)
      have h2 := wts_take e.args j hj'
      omega
    have hdt : deps (e.args.take j) ≤ wts e.args := deps_take_le e.args j
    simp -implicitDefEqProofs only [hint_md, List.contains_cons, List.contains_nil, Nat.reduceBEq, Bool.or_false, awp_seq, awp_block, awp_reg, awp_skip, seqQ_n, WW_one, frz_nil, ownOp, wc_app, wcont_s, upd_app, ev_tmp, ev_const, ev_func, av_int, x_move, x_load, x_bin, x_fieldAddr, x_indexAddr, X1_call, callA_fn, holdsO_ofO, bin_add, List.map_cons, List.map_nil, List.append_nil, ↓reduceIte, Nat.reduceEqDiff, Nat.zero_add, Option.getD_some, Bool.not_false, enP, ix51, fa53_3, hint_fz0, f0, f2, f4, f6, lb3 _ hB, ix_map hj', load_mapA ag53 sz53 encE_len hj', wrap_succ (show d < 9223372036854775807 by omega)]
    refine (ih e.args[j] hmem (by omega) H (d + 1) _ _ _ u1 u2 (by omega) (by omega) (by omega) s).mono ?_
    rintro v H' ⟨w1, w2, s', hC'⟩
    simp -implicitDefEqProofs only [hint_md, List.contains_cons, List.contains_nil, Nat.reduceBEq, Bool.or_false, awp_reg, seqQ_n, blk_n, rnd_n, WW_one, WW_nil, frz_nil, ownOp, wc_app, wcont_s, upd_app, ev_tmp, ev_const, av_int, x_move, x_assign, x_bin, holdsO_ofO, bin_add, ↓reduceIte, Nat.reduceEqDiff, Option.getD_some, Bool.not_false, enP, hint_fz0, f6, wrap_succ (show j < 9223372036854775807 by omega)]
    refine ⟨k - 1, by omega, j + 1, by omega, rfl, f0, f2, f4, w1, w2, ?_, hC.trans hC'⟩
    rw [pres_take _ _ hj', deps_take _ _ hj', errF_app, List.length_append]
    have e1 : max (max dd (d + deps (e.args.take j))) (d + 1 + deps e.args[j].args) = max dd (d + max (deps (e.args.take j)) (dep e.args[j])) := by
      rw [dep_eq]; omega
    rw [e1, Nat.add_assoc (n + 1)] at s'
    exact s'
  · have hj' : ¬ j < e.args.length := by simpa using hlt
    rw [List.take_of_length_le (by omega)] at s
    simp -implicitDefEqProofs only [awp_exit, seqQ_e, blk_e, rnd_e, end_n0, ↓reduceIte]
    refine ⟨u1, u2, ?_, c0.trans hC⟩
    have e1 : n + 1 + (pres e.args).length = n + (pre e).length := by rw [pre_eq]; simp; omega
    have e2 : errF (errF f [e]) (pres e.args) = errF f (pre e) := by rw [pre_eq, ← errF_app]; rfl
    rw [e1, e2] at s
    exact s
end Go.Proofs.YtocilianjfhifaaGreatDoor.Cov
/- The reference's Valid of expressions: over, Valid; no condition. -/
set_option linter.unusedSimpArgs false
set_option maxRecDepth 8000
namespace Go.Proofs.YtocilianjfhifaaGreatDoor.Cov
open Go Go.Proofs Go.Proofs.YtocilianjfhifaaGreatDoor.Sm Go.Proofs.YtocilianjfhifaaGreatDoor.Bins Go.RowKit

theorem bd134 : aBuild Tryz.prog 181 [] = some (.agg [.int .i64 0, .int .i64 0, .int .i64 0, .sl .nil 0 [], .sl .nil 0 []]) := by kernel_rfl
theorem bx134 (h : Hp) : aBox h (.agg [.int .i64 0, .int .i64 0, .int .i64 0, .sl .nil 0 [], .sl .nil 0 []]) = some (.ptr h.length 0 0, h ++ [.live 5 [wRow 0 0 0 (.sl .nil 0 []) (.sl .nil 0 [])]]) := box_agg rfl
theorem over_ref (G : Nat → AV) (e : Ex) (hw : wt e ≤ 1048576) (h : Hp) :
    ACalls (En G) 149 [.agg (encE e)] h fun v h' => ∃ c m u1 u2, v = .ptr c 0 0 ∧ St h' c m m (pre e).length (dep e) (errs (pre e)) u1 u2 ∧ ∃ x, h' = h ++ x := by
  refine acalls_of (H := Hint.none) (enM G) Tryz.func149 rfl (by kernel_rfl) (by kernel_rfl) (Nat.le_of_ble_eq_true (by kernel_rfl)) ?_
  show awp _ _ _ _ _ (endQ _ [.tmp 2] _)
  simp -implicitDefEqProofs only [evp_nil, awp_seq, awp_reg, seqQ_n, WW_one, WW_nil, none_md, none_fz, frz_nil, ownOp, wc_app, wcont_s, upd_app, ev_tmp, ev_const, ev_func, av_int, av_nilp, x_move, x_assign, x_box, x_build, x_load, X1_call, callA_fn, holdsO_some, holdsO_ofO, frameOf_zero, List.map_cons, List.map_nil, List.append_nil, ↓reduceIte, Nat.reduceEqDiff, Option.getD_some, Bool.not_false, enP, bxE, bd134, bx134, ldE_at (below_get (top_get h _))]
  have nb : ∀ b, ¬ isB (.sl .nil 0 []) b := fun b hb => hb
  refine (see_ref G _ e hw _ 1 0 0 0 (.sl .nil 0 []) (.sl .nil 0 []) (by omega) (by omega) (by omega) ⟨top_get _ _, ⟨[], by simp, .inl ⟨rfl, _, rfl⟩⟩, ⟨[], by simp, .inl ⟨rfl, _, rfl⟩⟩, fun b hb => (nb b hb).elim⟩).mono ?_
  rintro v h' ⟨u1, u2, s, hC⟩
  simp -implicitDefEqProofs only [awp_seq, awp_reg, awp_ret, seqQ_n, end_r, WW_one, WW_nil, none_md, none_fz, frz_nil, ownOp, wc_app, wcont_s, upd_app, ev_tmp, x_move, x_assign, ↓reduceIte, Nat.reduceEqDiff, Option.getD_some, Bool.not_false]
  have e1 : 0 + (pre e).length = (pre e).length := Nat.zero_add _
  have e2 : max 0 (1 + deps e.args) = dep e := by rw [dep_eq]; omega
  rw [e1, e2] at s
  refine ⟨_, _, u1, u2, rfl, s, ?_⟩
  have hC2 := ((Ch.app (h ++ [ABlk.live 4 [encE e]]).length (.sl .nil 0 []) (.sl .nil 0 []) h [.live 4 [encE e]]).trans (Ch.app _ _ _ _ [.live 5 [wRow 0 0 0 (.sl .nil 0 []) (.sl .nil 0 [])]])).trans hC
  refine Chg.above (c := (h ++ [ABlk.live 4 [encE e]]).length) ⟨hC2.len, fun b hb hne => hC2.get b hb hne (nb b) (nb b)⟩ (by simp)
theorem exvalid_ref (G : Nat → AV) (e : Ex) (h : Hp) (hw : wt e ≤ 1048576) : PCall (En G) 161 [.agg (encE e)] h (.int .i64 (exE e)) := by
  refine ACalls.pure0 rfl ?_
  refine acalls_of (H := Hint.none) (enM G) Tryz.func161 rfl (by kernel_rfl) (by kernel_rfl) (Nat.le_of_ble_eq_true (by kernel_rfl)) ?_
  show awp _ _ _ _ _ (endQ _ [.tmp 2] _)
  simp -implicitDefEqProofs only [awp_seq, awp_reg, seqQ_n, WW_one, WW_nil, none_md, none_fz, frz_nil, ownOp, wc_app, wcont_s, upd_app, ev_tmp, ev_const, ev_func, av_int, x_assign, x_box, x_load, X1_call, callA_fn, holdsO_some, holdsO_ofO, frameOf_zero, List.map_cons, List.map_nil, List.append_nil, ↓reduceIte, Nat.reduceEqDiff, Option.getD_some, Bool.not_false, enP, bxE, ldE]
  refine (over_ref G e hw _).mono ?_
  rintro v h' ⟨c, m, u1, u2, rfl, s, x, rfl⟩
  simp -implicitDefEqProofs only [awp_seq, awp_reg, seqQ_n, WW_one, WW_nil, WW_guardE, GX_some, gdstO, none_md, none_fz, frz_nil, ownOp, wc_app, wcont_s, upd_app, ev_tmp, ev_const, av_int, x_move, x_assign, x_load, x_bin, x_fieldAddr, holdsO_ofO, bin_eql, ↓reduceIte, Nat.zero_add, Option.getD_some, Bool.not_false, enP, fa181_2, x_nilCheck, nilA_ptr, s.l2]
  rcases he : (errs (pre e) == 0) with _ | _
  · simp -implicitDefEqProofs only [awp_seq, awp_reg, awp_skip, awp_ret, awp_cond, seqQ_n, end_r, cond_f, WW_one, WW_nil, WW_guardE, GX_some, gdstO, G1_tf, G1_u, none_md, none_fz, frz_nil, ownOp, wc_app, wcont_s, upd_app, aput, ev_tmp, ev_const, av_bool, x_move, x_assign, x_pick, pick_f, x_load, x_fieldAddr, holdsO_ofO, ↓reduceIte, Nat.reduceEqDiff, Nat.zero_add, Option.getD_some, Bool.not_false, enP, fa181_2, x_nilCheck, nilA_ptr, s.l2]
    have : errs (pre e) ≠ 0 := by simpa using he
    exact ⟨by unfold exE; rw [if_neg (fun hh => this hh.1)], _, by rw [List.append_assoc]⟩
  have he0 : errs (pre e) = 0 := by simpa using he
  simp -implicitDefEqProofs only [WW_guardE, GX_some, gdstO, G1_tt, none_md, none_fz, frz_nil, ownOp, wc_app, wcont_s, upd_app, ev_tmp, ev_const, av_int, x_move, x_load, x_bin, x_fieldAddr, holdsO_ofO, bin_gtr, ↓reduceIte, Nat.reduceEqDiff, Nat.zero_add, Option.getD_some, Bool.not_false, enP, fa181_1, x_nilCheck, nilA_ptr, s.l1]
  refine G1_of (fun hd => ?_) (fun hd => ?_)
  · simp -implicitDefEqProofs only [awp_seq, awp_reg, awp_ret, awp_cond, seqQ_n, seqQ_r, end_r, cond_t, WW_one, WW_nil, WW_guardE, GX_some, gdstO, G1_tt, G1_ft, none_md, none_fz, frz_nil, ownOp, wc_app, wcont_s, upd_app, aput, ev_tmp, ev_const, av_int, av_bool, x_assign, x_pick, pick_t, ↓reduceIte, Nat.reduceEqDiff, Option.getD_some, Bool.not_false, hd]
    exact ⟨by unfold exE; rw [if_pos ⟨he0, .inl (by simp at hd; omega)⟩], _, by rw [List.append_assoc]⟩
  simp -implicitDefEqProofs only [awp_cond, seqQ_n, WW_one, WW_nil, WW_guardE, GX_some, gdstO, G1_tt, G1_ff, none_md, none_fz, frz_nil, ownOp, wc_app, wcont_s, upd_app, ev_tmp, ev_const, av_int, av_bool, x_move, x_pick, pick_t, pick_f, x_load, x_bin, x_fieldAddr, holdsO_ofO, bin_gtr, ↓reduceIte, Nat.reduceEqDiff, Nat.add_zero, Option.getD_some, Bool.not_false, enP, fa181_0, x_nilCheck, nilA_ptr, hd, s.l0]
  refine cond_of (fun hn => ?_) (fun hn => ?_)
  · simp -implicitDefEqProofs only [awp_seq, awp_reg, awp_ret, seqQ_n, seqQ_r, end_r, WW_one, WW_nil, none_md, none_fz, frz_nil, ownOp, wc_app, wcont_s, upd_app, ev_const, av_int, x_assign, ↓reduceIte, Option.getD_some, Bool.not_false]
    exact ⟨by unfold exE; rw [if_pos ⟨he0, .inr (by simp at hn; omega)⟩], _, by rw [List.append_assoc]⟩
  · simp -implicitDefEqProofs only [awp_seq, awp_reg, awp_skip, awp_ret, seqQ_n, end_r, WW_one, WW_nil, none_md, none_fz, frz_nil, ownOp, wc_app, wcont_s, upd_app, ev_tmp, x_move, x_assign, x_load, x_fieldAddr, holdsO_ofO, ↓reduceIte, Nat.reduceEqDiff, Nat.zero_add, Option.getD_some, Bool.not_false, enP, fa181_2, x_nilCheck, nilA_ptr, s.l2]
    exact ⟨by unfold exE; rw [if_neg (fun hh => by simp at hn hd; omega)], _, by rw [List.append_assoc]⟩
end Go.Proofs.YtocilianjfhifaaGreatDoor.Cov
