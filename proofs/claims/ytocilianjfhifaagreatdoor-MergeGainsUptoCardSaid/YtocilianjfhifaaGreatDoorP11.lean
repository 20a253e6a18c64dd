/- Part 11 of the proof (A1, Q1, Q2, Q3, A2, Q4, Q5, Q6, Q7, Q8, G1, G3); no condition. -/
import Derived.Test.YtocilianjfhifaaGreatDoorP10
set_option linter.unusedVariables false
/- Adding coverages that fit a model: what it is, and what it keeps; no condition. -/
namespace Go.Proofs.YtocilianjfhifaaGreatDoor.Cov
open Go Go.Proofs Go.Proofs.YtocilianjfhifaaGreatDoor.Sm Go.Proofs.YtocilianjfhifaaGreatDoor.Bins Go.RowKit

/-- the sum of two counts -/
def addZ (a b : Int) : Int := min (a + b) 1099511627776
theorem withinB_iff {n : Int} : withinB n = true ↔ 0 ≤ n ∧ n ≤ 1099511627776 := by unfold withinB; simp
theorem addZ_within {a b : Int} (ha : withinB a = true) (hb : withinB b = true) : withinB (addZ a b) = true := by
  rw [withinB_iff] at *; unfold addZ; omega
theorem addZ_comm (a b : Int) : addZ a b = addZ b a := by unfold addZ; rw [Int.add_comm]
theorem addZ_zero {a : Int} (ha : withinB a = true) : addZ 0 a = a := by
  rw [withinB_iff] at *; unfold addZ; omega
theorem addZ_pos {a b : Int} (ha : withinB a = true) (hb : withinB b = true) : decide (addZ a b > 0) = (decide (a > 0) || decide (b > 0)) := by
  rw [withinB_iff] at *
  unfold addZ
  rw [Bool.eq_iff_iff]
  simp only [decide_eq_true_eq, Bool.or_eq_true]
  omega
theorem countB_within {n : Int} {p : Bool} (h : countB n p = true) : withinB n = true := by unfold countB at h; simp only [Bool.and_eq_true] at h; exact h.1
theorem countB_add {a b : Int} {p : Bool} (ha : countB a p = true) (hb : countB b p = true) : countB (addZ a b) p = true := by
  unfold countB at *
  simp only [Bool.and_eq_true] at *
  refine ⟨addZ_within ha.1 hb.1, ?_⟩
  cases p
  · have h1 := ha.2; have h2 := hb.2
    simp only [Bool.false_or, beq_iff_eq] at h1 h2
    subst h1; subst h2; rfl
  · rfl
/-- the sums of two lists -/
def addL (x y : List Int) : List Int := List.zipWith addZ x y
def addIs (x y : Is) : Is := ⟨nm (addL x.l y.l), addL x.l y.l⟩
def addLs (a b : List Is) : List Is := List.zipWith addIs a b
def addV (a b : Cvr) : Cvr := ⟨nm (addLs a.pts b.pts), addLs a.pts b.pts, nm (addLs a.crs b.crs), addLs a.crs b.crs, addZ a.sam b.sam, addZ a.ill b.ill⟩
/-- numbers that are counts -/
def WL (x : List Int) : Prop := ∀ n ∈ x, withinB n = true
theorem rowF_within : ∀ {x : List Int} {p : Nat → Bool} {k : Nat}, rowF p k x = true → WL x
  | [], _, _, _ => fun _ h => by cases h
  | n :: x, p, k, h => by
    simp only [rowF, Bool.and_eq_true] at h
    intro m hm
    rcases List.mem_cons.1 hm with rfl | hm
    · exact countB_within h.1
    · exact rowF_within h.2 m hm
theorem rowF_add : ∀ {x y : List Int} {p : Nat → Bool} {k : Nat}, rowF p k x = true → rowF p k y = true → rowF p k (addL x y) = true
  | [], _, _, _, _, _ => by simp [addL, rowF]
  | _ :: _, [], _, _, _, _ => by simp [addL, rowF]
  | a :: x, b :: y, p, k, ha, hb => by
    simp only [rowF, Bool.and_eq_true] at ha hb
    have ih := rowF_add ha.2 hb.2
    simp only [addL, List.zipWith_cons_cons, rowF, Bool.and_eq_true]
    exact ⟨countB_add ha.1 hb.1, ih⟩
theorem okP_add {p : Pt} {x y : Is} (hx : okP p x = true) (hy : okP p y = true) : okP p (addIs x y) = true := by
  unfold okP at *
  simp only [Bool.and_eq_true, beq_iff_eq] at *
  refine ⟨?_, rowF_add hx.2 hy.2⟩
  show (addL x.l y.l).length = _
  unfold addL; rw [List.length_zipWith]; omega
theorem okC_add {m : Mo} {c : Cr} {x y : Is} (hx : okC m c x = true) (hy : okC m c y = true) : okC m c (addIs x y) = true := by
  unfold okC at *
  simp only [Bool.and_eq_true, beq_iff_eq] at *
  refine ⟨?_, rowF_add hx.2 hy.2⟩
  show (addL x.l y.l).length = _
  unfold addL; rw [List.length_zipWith]; omega
theorem fit2_add {α : Type} {ok : α → Is → Bool} (hok : ∀ a x y, ok a x = true → ok a y = true → ok a (addIs x y) = true) : ∀ {ws : List α} {xs ys : List Is}, fit2 ok ws xs = true → fit2 ok ws ys = true → fit2 ok ws (addLs xs ys) = true
  | [], [], [], _, _ => rfl
  | a :: ws, x :: xs, y :: ys, hx, hy => by
    simp only [fit2, Bool.and_eq_true] at hx hy
    simp only [addLs, List.zipWith_cons_cons, fit2, Bool.and_eq_true]
    exact ⟨hok _ _ _ hx.1 hy.1, fit2_add hok hx.2 hy.2⟩
  | [], _ :: _, _, h, _ => by cases h
  | [], [], _ :: _, _, h => by cases h
  | _ :: _, [], _, h, _ => by cases h
  | _ :: _, _ :: _, [], _, h => by cases h
/-- what it is to fit -/
theorem fitsB_iff {m : Mo} {v : Cvr} : fitsB m v = true ↔ modelE m = 0 ∧ fit2 okP m.pts v.pts = true ∧ fit2 (okC m) m.crs v.crs = true ∧ withinB v.sam = true ∧ withinB v.ill = true := by
  unfold fitsB
  simp only [Bool.and_eq_true, beq_iff_eq]
  exact ⟨fun ⟨⟨⟨⟨a, b⟩, c⟩, d⟩, e⟩ => ⟨a, b, c, d, e⟩, fun ⟨a, b, c, d, e⟩ => ⟨⟨⟨⟨a, b⟩, c⟩, d⟩, e⟩⟩
theorem fitsB_add {m : Mo} {a b : Cvr} (ha : fitsB m a = true) (hb : fitsB m b = true) : fitsB m (addV a b) = true := by
  rw [fitsB_iff] at *
  obtain ⟨h1, h2, h3, h4, h5⟩ := ha
  obtain ⟨_, k2, k3, k4, k5⟩ := hb
  exact ⟨h1, fit2_add (fun _ _ _ => okP_add) h2 k2, fit2_add (fun _ _ _ => okC_add) h3 k3, addZ_within h4 k4, addZ_within h5 k5⟩
/-- the coverage without samples -/
def zeros (n : Nat) : List Int := List.replicate n 0
def zIs (n : Nat) : Is := ⟨.full, zeros n⟩
def zPs (m : Mo) : List Is := m.pts.map fun p => zIs p.bins.length
def zCs (m : Mo) : List Is := m.crs.map fun c => zIs (prodN (szs m c.pts))
def emptyV (m : Mo) : Cvr := ⟨nm (zPs m), zPs m, nm (zCs m), zCs m, 0, 0⟩
theorem rowF_zero : ∀ (n : Nat) {p : Nat → Bool} {k : Nat}, rowF p k (zeros n) = true
  | 0, _, _ => rfl
  | n + 1, p, k => by
    have ih := rowF_zero n (p := p) (k := k + 1)
    unfold zeros at *
    simp only [List.replicate_succ, rowF, ih, Bool.and_true]
    unfold countB; cases p k <;> rfl
theorem fit2_map {α : Type} {ok : α → Is → Bool} (f : α → Is) (hf : ∀ a, ok a (f a) = true) : ∀ ws : List α, fit2 ok ws (ws.map f) = true
  | [] => rfl
  | a :: ws => by simp only [List.map_cons, fit2, hf, fit2_map f hf ws, Bool.and_true]
theorem fitsB_empty {m : Mo} (h : modelE m = 0) : fitsB m (emptyV m) = true := by
  rw [fitsB_iff]
  refine ⟨h, fit2_map _ (fun p => ?_) _, fit2_map _ (fun c => ?_) _, rfl, rfl⟩
  · unfold okP; simp [zIs, rowF_zero]; simp [zeros]
  · unfold okC; simp [zIs, rowF_zero]; simp [zeros]
/-- what a coverage says, however it lies -/
structure Dat where
  pts : List (List Int)
  crs : List (List Int)
  sam : Int
  ill : Int
def datV (v : Cvr) : Dat := ⟨v.pts.map (·.l), v.crs.map (·.l), v.sam, v.ill⟩
def addLL (a b : List (List Int)) : List (List Int) := List.zipWith addL a b
def addD (a b : Dat) : Dat := ⟨addLL a.pts b.pts, addLL a.crs b.crs, addZ a.sam b.sam, addZ a.ill b.ill⟩
theorem addLs_l : ∀ a b : List Is, (addLs a b).map (·.l) = addLL (a.map (·.l)) (b.map (·.l))
  | [], _ => by simp [addLs, addLL]
  | _ :: _, [] => by simp [addLs, addLL]
  | x :: a, y :: b => by
    have := addLs_l a b
    unfold addLs addLL at *
    simp only [List.zipWith_cons_cons, List.map_cons, this]; rfl
theorem datV_add (a b : Cvr) : datV (addV a b) = addD (datV a) (datV b) := by
  unfold datV addD addV; simp only [addLs_l]
theorem addL_comm (x y : List Int) : addL x y = addL y x := by unfold addL; exact List.zipWith_comm_of_comm addZ_comm
theorem addLL_comm (x y : List (List Int)) : addLL x y = addLL y x := by unfold addLL; exact List.zipWith_comm_of_comm addL_comm
theorem addD_comm (a b : Dat) : addD a b = addD b a := by
  unfold addD; rw [addLL_comm a.pts, addLL_comm a.crs, addZ_comm a.sam, addZ_comm a.ill]
theorem okP_within {p : Pt} {x : Is} (h : okP p x = true) : WL x.l := by
  unfold okP at h; simp only [Bool.and_eq_true] at h; exact rowF_within h.2
theorem okC_within {m : Mo} {c : Cr} {x : Is} (h : okC m c x = true) : WL x.l := by
  unfold okC at h; simp only [Bool.and_eq_true] at h; exact rowF_within h.2
theorem fit2_all {α : Type} {ok : α → Is → Bool} {Q : Is → Prop} (hq : ∀ a x, ok a x = true → Q x) : ∀ {ws : List α} {xs : List Is}, fit2 ok ws xs = true → ∀ x ∈ xs, Q x
  | _, [], _ => fun _ h => by cases h
  | a :: ws, x :: xs, h => by
    simp only [fit2, Bool.and_eq_true] at h
    intro y hy
    rcases List.mem_cons.1 hy with rfl | hy
    · exact hq _ _ h.1
    · exact fit2_all hq h.2 y hy
  | [], _ :: _, h => by cases h
theorem addL_zero : ∀ {n : Nat} {x : List Int}, WL x → x.length = n → addL (zeros n) x = x
  | 0, [], _, _ => rfl
  | n + 1, a :: x, h, e => by
    have ih := addL_zero (n := n) (x := x) (fun n hn => h n (by simp [hn])) (by simpa using e)
    unfold addL zeros at *
    simp only [List.replicate_succ, List.zipWith_cons_cons, ih, addZ_zero (h a (by simp))]
theorem addLL_zero {α : Type} {ok : α → Is → Bool} (f : α → Nat) (hok : ∀ a x, ok a x = true → x.l.length = f a ∧ WL x.l) : ∀ {ws : List α} {xs : List Is}, fit2 ok ws xs = true → addLL ((ws.map fun a => zIs (f a)).map (·.l)) (xs.map (·.l)) = xs.map (·.l)
  | [], [], _ => rfl
  | a :: ws, x :: xs, h => by
    simp only [fit2, Bool.and_eq_true] at h
    have ih := addLL_zero f hok h.2
    unfold addLL at *
    simp only [List.map_cons, List.zipWith_cons_cons, ih]
    rw [show addL (zIs (f a)).l x.l = x.l from addL_zero (hok _ _ h.1).2 (hok _ _ h.1).1]
  | [], _ :: _, h => by cases h
  | _ :: _, [], h => by cases h
theorem okP_len {p : Pt} {x : Is} (h : okP p x = true) : x.l.length = p.bins.length := by
  unfold okP at h; simp only [Bool.and_eq_true, beq_iff_eq] at h; exact h.1
theorem okC_len {m : Mo} {c : Cr} {x : Is} (h : okC m c x = true) : x.l.length = prodN (szs m c.pts) := by
  unfold okC at h; simp only [Bool.and_eq_true, beq_iff_eq] at h; exact h.1
theorem addD_zero {m : Mo} {v : Cvr} (h : fitsB m v = true) : addD (datV (emptyV m)) (datV v) = datV v := by
  rw [fitsB_iff] at h
  obtain ⟨_, h2, h3, h4, h5⟩ := h
  unfold addD datV emptyV zPs zCs
  simp only [addZ_zero h4, addZ_zero h5]
  rw [addLL_zero (ok := okP) (fun p => p.bins.length) (fun _ _ h => ⟨okP_len h, okP_within h⟩) h2, addLL_zero (ok := okC m) (fun c => prodN (szs m c.pts)) (fun _ _ h => ⟨okC_len h, okC_within h⟩) h3]
/-- whether something fits does not depend on how it lies -/
theorem fit2_dat {α : Type} {ok : α → Is → Bool} (hok : ∀ a x y, x.l = y.l → ok a x = ok a y) : ∀ (ws : List α) (xs ys : List Is), xs.map (·.l) = ys.map (·.l) → fit2 ok ws xs = fit2 ok ws ys
  | [], [], [], _ => rfl
  | a :: ws, x :: xs, y :: ys, h => by
    simp only [List.map_cons, List.cons.injEq] at h
    simp only [fit2, hok a x y h.1, fit2_dat hok ws xs ys h.2]
  | [], x :: xs, y :: ys, h => rfl
  | a :: ws, [], [], h => rfl
  | _, [], _ :: _, h => by simp at h
  | _, _ :: _, [], h => by simp at h
theorem fitsB_dat {m : Mo} {a b : Cvr} (h : datV a = datV b) : fitsB m a = fitsB m b := by
  unfold datV at h
  simp only [Dat.mk.injEq] at h
  obtain ⟨h1, h2, h3, h4⟩ := h
  unfold fitsB
  rw [fit2_dat (fun p x y e => by unfold okP; rw [e]) m.pts a.pts b.pts h1, fit2_dat (fun c x y e => by unfold okC; rw [e]) m.crs a.crs b.crs h2, h3, h4]
end Go.Proofs.YtocilianjfhifaaGreatDoor.Cov
/- Sums and equality of lists of counts, on both sides; no condition but the bounds on lengths. -/
set_option linter.unusedSimpArgs false
set_option maxRecDepth 8000
namespace Go.Proofs.YtocilianjfhifaaGreatDoor.Cov
open Go Go.Proofs Go.Proofs.YtocilianjfhifaaGreatDoor.Sm Go.Proofs.YtocilianjfhifaaGreatDoor.Bins Go.RowKit

theorem add_prog (G : Nat → AV) (a b : Int) (h : Hp) (ha : withinB a = true) (hb : withinB b = true) : PCall (En G) 147 [.int .i64 a, .int .i64 b] h (.int .i64 (addZ a b)) := by
  have h1 := withinB_iff.1 ha
  have h2 := withinB_iff.1 hb
  refine acalls_of (H := Hint.none) (enM G) Tryz.func147 rfl (by kernel_rfl) (by kernel_rfl) (Nat.le_of_ble_eq_true (by kernel_rfl)) ?_
  show awp _ _ _ _ _ (endQ _ [.tmp 4] _)
  simp -implicitDefEqProofs only [awp_seq, awp_reg, awp_ret, seqQ_n, end_r, WW_one, WW_nil, none_md, none_fz, frz_nil, ownOp, wc_app, wcont_s, upd_app, ev_tmp, ev_const, av_int, x_move, x_assign, x_bin, x_min, holdsO_ofO, bin_add, min_ii, frameOf_zero, frameOf_succ, ↓reduceIte, Nat.reduceEqDiff, Option.getD_some, Bool.not_false, enP, wrap_i64 (n := a + b) (by omega) (by omega)]
  exact ⟨rfl, trivial⟩
/-- two lists of lists of counts of the same lengths -/
structure Sh2 (a b : List Is) : Prop where
  len : a.length = b.length
  row : ∀ i (ha : i < a.length) (hb : i < b.length), a[i].l.length = b[i].l.length ∧ a[i].l ≠ [] ∧ WL a[i].l ∧ WL b[i].l ∧ a[i].l.length ≤ 1048576
  num : a.length ≤ 1048576
theorem fill_step (g : List Int) (k : Nat) (hk : k < g.length) : ((g.take k ++ zeros (g.length - k)).map encI).set k (encI g[k]) = (g.take (k + 1) ++ zeros (g.length - (k + 1))).map encI := by
  have hz : zeros (g.length - k) = 0 :: zeros (g.length - (k + 1)) := by
    unfold zeros
    rw [show g.length - k = (g.length - (k + 1)) + 1 by omega, List.replicate_succ]
  rw [hz, List.take_succ_eq_append_getElem hk]
  simp only [List.map_append, List.map_cons, List.map_nil, List.append_assoc, List.singleton_append]
  rw [List.set_append_right _ _ (by simp; omega)]
  simp [Nat.min_eq_left (Nat.le_of_lt hk)]
theorem fill_end (g : List Int) : (g.take g.length ++ zeros (g.length - g.length)).map encI = g.map encI := by
  rw [List.take_length, Nat.sub_self]; simp [zeros]
theorem fill_len (g : List Int) (k : Nat) (hk : k ≤ g.length) : (g.take k ++ zeros (g.length - k)).length = g.length := by
  simp [zeros]; omega
theorem mkI (h : Hp) (n : Nat) (hn : n ≤ 1048576) : aMakeSlice Tryz.prog true h 57 (.int .i64 (n : Int)) (.int .i64 (n : Int)) = some (.own h.length 0 n, h ++ [.live 1 ((zeros n).map encI)]) := by
  rw [mk56 h n hn, encN_eq]
  simp [zeros]
theorem st_ownI {h : Hp} {o j : Nat} {rows : List (List AV)} {x : Int} (ho : h[o]? = some (.live 1 rows)) (hj : ∃ v, rows[j]? = some [v]) : aStore Tryz.prog h 3 (.ptr o j 0) (.int .i64 x) = some (h.set o (.live 1 (rows.set j (encI x)))) := by
  obtain ⟨v, hv⟩ := hj
  rw [store_row (ac_int _ _) sz3 ho hv (by simp)]; rfl
theorem set_top (h : Hp) (x y : ABlk) : (h ++ [x]).set h.length y = h ++ [y] := by simp
theorem row_some {g : List Int} {j : Nat} (hj : j < g.length) : ∃ v, (g.map encI)[j]? = some [v] := ⟨_, by rw [List.getElem?_map, List.getElem?_eq_getElem hj]; rfl⟩
theorem bs26a (h : Hp) (m : SM) (xs : List (List AV)) : aBuildSlice Tryz.prog false h 26 1 [(0, .sl m 1 xs)] = some (.sl .full 1 [[.sl m 1 xs]], h) := by kernel_rfl
theorem frzL : Frz encL := fun _ _ _ _ => ⟨rfl, rfl⟩
theorem frzI1 (g : List Int) : allFrozen (g.map encI) = true := by
  unfold allFrozen
  rw [List.all_eq_true]
  intro r hr
  obtain ⟨x, _, rfl⟩ := List.mem_map.1 hr
  rfl
theorem nm_any {α : Type} {ys : List α} (h : ys ≠ []) : nm ys = .any := by cases ys with
  | nil => exact absurd rfl h
  | cons _ _ => rfl
theorem addLs_len (a b : List Is) (h : a.length = b.length) : (addLs a b).length = a.length := by unfold addLs; rw [List.length_zipWith]; omega
theorem addL_len (x y : List Int) (h : x.length = y.length) : (addL x y).length = x.length := by unfold addL; rw [List.length_zipWith]; omega
theorem addLs_get (a b : List Is) (i : Nat) (ha : i < a.length) (hb : i < b.length) (hi : i < (addLs a b).length) : (addLs a b)[i] = addIs a[i] b[i] := List.getElem_zipWith
theorem addL_get (x y : List Int) (i : Nat) (ha : i < x.length) (hb : i < y.length) (hi : i < (addL x y).length) : (addL x y)[i] = addZ x[i] y[i] := List.getElem_zipWith
set_option maxHeartbeats 1000000 in
theorem lists_prog (G : Nat → AV) (a b : List Is) (s t : SM) (h : Hp) (hs : Sh2 a b) : PCall (En G) 146 [.sl s 1 (a.map encL), .sl t 1 (b.map encL)] h (.sl (nm (addLs a b)) 1 ((addLs a b).map encL)) := by
  refine outG_pure frzL ?_
  have hl := hs.len
  have hn := hs.num
  have hsl := addLs_len a b hl
  refine acalls_of (H := hint [] [(43, [42])]) (enM G) Tryz.func146 rfl (by kernel_rfl) (by kernel_rfl) (Nat.le_of_ble_eq_true (by kernel_rfl)) ?_
  show awp _ _ _ _ _ (endQ _ [.tmp 4] _)
  simp -implicitDefEqProofs only [hint_md, List.contains_nil, Nat.reduceBEq, awp_seq, awp_block, awp_reg, seqQ_n, WW_one, WW_nil, frz_nil, ownOp, wc_app, wcont_s, upd_app, ev_tmp, ev_const, av_int, av_nil, x_move, x_assign, x_len, holdsO_ofO, frameOf_zero, ↓reduceIte, Nat.reduceEqDiff, Option.getD_some, Bool.not_false, enP, ln26, Bool.false_eq_true, hint_fz1, List.length_map]
  refine awp_loop (fun n F H => ∃ i, n + i = a.length ∧ F 1 = .sl t 1 (b.map encL) ∧ F 10 = .sl s 1 (a.map encL) ∧ F 11 = .int .i64 a.length ∧ F 12 = .int .i64 (i : Nat) ∧ ext h H ∧ outG 1 encL h ((addLs a b).take i) (F 5) H) a.length ⟨0, by simp, by simp -implicitDefEqProofs only [upd_app, frameOf_zero, frameOf_succ, ↓reduceIte, Nat.reduceEqDiff], by simp -implicitDefEqProofs only [upd_app, ↓reduceIte, Nat.reduceEqDiff], by simp -implicitDefEqProofs only [upd_app, ↓reduceIte, Nat.reduceEqDiff], by simp -implicitDefEqProofs only [upd_app, ↓reduceIte]; rfl, ext.rfl' h, by rw [List.take_zero]; exact outG.nil _ _ _ _⟩ ?_
  rintro n F H ⟨i, hi, f1, f10, f11, f12, he, ho⟩
  simp -implicitDefEqProofs only [hint_md, List.contains_nil, Nat.reduceBEq, awp_seq, awp_reg, awp_cond, seqQ_n, WW_one, WW_nil, frz_nil, ownOp, wc_app, wcont_s, upd_app, ev_tmp, x_bin, holdsO_ofO, bin_lss, ↓reduceIte, Option.getD_some, Bool.not_false, enP, Bool.false_eq_true, hint_fz1, f11, f12]
  refine cond_of (fun hc => ?_) (fun hc => ?_)
  · have ha : i < a.length := by simpa using hc
    have hb : i < b.length := by omega
    obtain ⟨r1, r2, r3, r4, r5⟩ := hs.row i ha hb
    have hSi : i < (addLs a b).length := by omega
    have hget := addLs_get a b i ha hb hSi
    have htk := List.take_succ_eq_append_getElem hSi
    rw [hget] at htk
    have hgl := addL_len _ _ r1
    have hgi := addL_get a[i].l b[i].l
    have hgne : addL a[i].l b[i].l ≠ [] := fun e => r2 (List.eq_nil_of_length_eq_zero (by rw [← hgl, e]; rfl))
    have hadd : addIs a[i] b[i] = ⟨.any, addL a[i].l b[i].l⟩ := by unfold addIs; rw [nm_any hgne]
    rw [hadd] at htk
    generalize addL a[i].l b[i].l = g at hgl hgi hgne htk
    simp -implicitDefEqProofs only [hint_md, List.contains_nil, Nat.reduceBEq, awp_seq, awp_block, awp_reg, awp_skip, seqQ_n, WW_one, WW_nil, frz_nil, ownOp, wc_app, wcont_s, upd_app, ev_tmp, ev_const, av_int, x_move, x_assign, x_load, x_makeSlice, x_indexAddr, x_len, holdsO_some, holdsO_ofO, ↓reduceIte, Nat.reduceEqDiff, Option.getD_some, Bool.not_false, enP, ix26, ln57, Bool.false_eq_true, hint_fz1, f10, f12, ix_map ha, load_map ag57 ha, encL0, List.length_map, mkI _ _ r5]
    refine awp_lp 2 (fun F' H' => F' 1 = .sl t 1 (b.map encL) ∧ F' 10 = .sl s 1 (a.map encL) ∧ F' 11 = .int .i64 a.length ∧ F' 12 = .int .i64 (i : Nat) ∧ F' 5 = F 5 ∧ F' 8 = .own H.length 0 g.length ∧ H' = H ++ [.live 1 (g.map encI)]) (fun _ _ => False) ?_ ?_ (fun _ _ hh => hh.elim)
    · refine awp_loop (fun n F' H' => ∃ k, n + k = g.length ∧ F' 1 = .sl t 1 (b.map encL) ∧ F' 10 = .sl s 1 (a.map encL) ∧ F' 11 = .int .i64 a.length ∧ F' 12 = .int .i64 (i : Nat) ∧ F' 5 = F 5 ∧ F' 8 = .own H.length 0 g.length ∧ F' 7 = .sl a[i].m 1 (a[i].l.map encI) ∧ F' 6 = .int .i64 (i : Nat) ∧ F' 21 = .int .i64 g.length ∧ F' 22 = .int .i64 (k : Nat) ∧ H' = H ++ [.live 1 ((g.take k ++ zeros (g.length - k)).map encI)]) g.length ⟨0, by simp, by simp -implicitDefEqProofs only [upd_app, ↓reduceIte, Nat.reduceEqDiff, f1], by simp -implicitDefEqProofs only [upd_app, ↓reduceIte, Nat.reduceEqDiff, f10], by simp -implicitDefEqProofs only [upd_app, ↓reduceIte, Nat.reduceEqDiff, f11], by simp -implicitDefEqProofs only [upd_app, ↓reduceIte, Nat.reduceEqDiff, f12], by simp -implicitDefEqProofs only [upd_app, ↓reduceIte, Nat.reduceEqDiff], by simp -implicitDefEqProofs only [upd_app, ↓reduceIte, Nat.reduceEqDiff]; rw [hgl], by simp -implicitDefEqProofs only [upd_app, ↓reduceIte, Nat.reduceEqDiff], by simp -implicitDefEqProofs only [upd_app, ↓reduceIte, Nat.reduceEqDiff], by simp -implicitDefEqProofs only [upd_app, ↓reduceIte, Nat.reduceEqDiff]; rw [hgl], by simp -implicitDefEqProofs only [upd_app, ↓reduceIte]; rfl, by rw [List.take_zero, List.nil_append, Nat.sub_zero, hgl]⟩ ?_
      rintro n' F' H' ⟨k, hk, g1, g10, g11, g12, g5, g8, g7, g6, g21, g22, rfl⟩
      simp -implicitDefEqProofs only [hint_md, List.contains_nil, Nat.reduceBEq, awp_seq, awp_reg, awp_cond, seqQ_n, WW_one, WW_nil, frz_nil, ownOp, wc_app, wcont_s, upd_app, ev_tmp, x_bin, holdsO_ofO, bin_lss, ↓reduceIte, Option.getD_some, Bool.not_false, enP, Bool.false_eq_true, hint_fz1, g21, g22]
      refine cond_of (fun hc => ?_) (fun hc => ?_)
      · have hk' : k < g.length := by simpa using hc
        have hka : k < a[i].l.length := by omega
        have hkb : k < b[i].l.length := by omega
        have hw := add_prog G _ _ (H ++ [.live 1 ((g.take k ++ zeros (g.length - k)).map encI)]) (r3 _ (List.getElem_mem hka)) (r4 _ (List.getElem_mem hkb))
        rw [← hgi k hka hkb hk'] at hw
        have hrow := row_some (g := g.take k ++ zeros (g.length - k)) (j := k) (by rw [fill_len g k (by omega)]; exact hk')
        simp -implicitDefEqProofs only [hint_md, List.contains_nil, Nat.reduceBEq, awp_seq, awp_block, awp_reg, awp_skip, seqQ_n, WW_one, WW_nil, frz_nil, ownOp, wc_app, wcont_s, upd_app, ev_tmp, x_move, x_assign, ↓reduceIte, Nat.reduceEqDiff, Option.getD_some, Bool.not_false, Bool.false_eq_true, hint_fz1, g22]
        refine awp_draw (by kernel_rfl) ?_
        simp -implicitDefEqProofs only [YO_f, hint_md, List.contains_nil, dc_app, dcont_s, DD_one, y_move, y_load, y_indexAddr, Y1_call, callP_fn, upd_app, ev_tmp, ev_func, x_load, x_indexAddr, holdsO_ofO, List.map_cons, List.map_nil, List.append_nil, ↓reduceIte, Nat.reduceEqDiff, Nat.reduceAdd, Option.getD_some, enP, ix26, ix57, g1, g6, g7, g8, ix_map hka, load_map ag3 hka, encI0, ix_map hb, load_map ag57 hb, encL0, ix_map hkb, load_map ag3 hkb]
        refine ⟨_, hw, ?_⟩
        try simp -implicitDefEqProofs only [YO_f, hint_md, List.contains_nil, Nat.reduceBEq, dc_app, dcont_s, dcont_n, DD_nil, DD_one, y_store, awp_reg, seqQ_n, blk_n, rnd_n, WW_one, WW_nil, frz_nil, ownOp, wc_app, wcont_s, upd_app, ev_tmp, ev_const, av_int, x_move, x_store, x_bin, holdsO_ofO, holdsO_ofS, bin_add, ↓reduceIte, Nat.reduceEqDiff, Nat.zero_add, Option.getD_some, Bool.not_false, enP, Option.getD_none, Bool.false_eq_true, hint_fz1, g22, ix_own (top_get H _) hk', Nat.zero_add, st_ownI (top_get H _) hrow, set_top, fill_step g k hk', wrap_succ (show k < 9223372036854775807 by omega)]
        exact ⟨n' - 1, by omega, k + 1, by omega, g1, g10, g11, g12, g5, g8, g7, g6, g21, rfl, rfl⟩
      · have hk' : ¬ k < g.length := by simpa using hc
        obtain rfl : k = g.length := by omega
        simp -implicitDefEqProofs only [awp_exit, seqQ_e, lp_e, rnd_e, upd_app, ↓reduceIte, Nat.reduceEqDiff]
        exact ⟨g1, g10, g11, g12, g5, g8, by rw [fill_end]⟩
    · rintro F' H' ⟨g1, g10, g11, g12, g5, g8, rfl⟩
      have hz := frz_own1 (H := H ++ [.live 1 (g.map encI)]) (i := 42) (off := 0) (len := g.length) (top_get H _) (by simp) (by rw [List.drop_zero, List.take_of_length_le (by simp)]; exact frzI1 g)
      rw [List.drop_zero, List.take_of_length_le (by simp), set_top] at hz
      obtain ⟨v', H2, hap, ho', _, he', _, _⟩ := (ho.app [.dead]).append ud26 sz57 zs26 by26 (by omega) (by rw [List.length_take]; omega) (he.app [.dead]) ⟨.any, g⟩
      simp -implicitDefEqProofs only [evp_nil, evp_cons, hint_md, List.contains_nil, Nat.reduceBEq, awp_reg, seqQ_n, blk_e, WW_one, frz_nil, ownOp, wc_app, wcont_s, upd_app, ev_tmp, x_move, x_buildSlice, x_append, holdsO_some, ↓reduceIte, Nat.reduceEqDiff, Option.getD_some, Bool.not_false, enP, Bool.false_eq_true, hint_fz1, g5, g8, frz_cons, frz_nil, hz, bs26a]
      refine holdsO_of (v := v') (h := H2) hap ?_
      simp -implicitDefEqProofs only [hint_md, List.contains_nil, Nat.reduceBEq, awp_reg, seqQ_n, blk_n, rnd_n, WW_one, WW_nil, frz_nil, ownOp, wc_app, wcont_s, upd_app, ev_tmp, ev_const, av_int, x_move, x_assign, x_bin, holdsO_ofO, bin_add, ↓reduceIte, Nat.reduceEqDiff, Option.getD_some, Bool.not_false, enP, Bool.false_eq_true, hint_fz1, g12, wrap_succ (show i < 9223372036854775807 by omega)]
      refine ⟨n - 1, by omega, i + 1, by omega, g1, g10, g11, rfl, he', ?_⟩
      rw [htk]; exact ho'
  · have ha : ¬ i < a.length := by simpa using hc
    rw [List.take_of_length_le (by omega)] at ho
    simp -implicitDefEqProofs only [hint_md, List.contains_nil, Nat.reduceBEq, awp_seq, awp_reg, awp_ret, awp_exit, seqQ_n, seqQ_e, blk_e, rnd_e, end_r, WW_one, WW_nil, frz_nil, ownOp, wc_app, wcont_s, upd_app, ev_tmp, x_move, x_assign, ↓reduceIte, Nat.reduceEqDiff, Option.getD_some, Bool.not_false, Bool.false_eq_true, hint_fz1]
    exact ⟨he, ho⟩
end Go.Proofs.YtocilianjfhifaaGreatDoor.Cov
/- Sums of lists of counts, and equality of coverages, on the reference's side; no condition but the bounds on lengths. -/
set_option linter.unusedSimpArgs false
set_option maxRecDepth 8000
namespace Go.Proofs.YtocilianjfhifaaGreatDoor.Cov
open Go Go.Proofs Go.Proofs.YtocilianjfhifaaGreatDoor.Sm Go.Proofs.YtocilianjfhifaaGreatDoor.Bins Go.RowKit

/-- two coverages in two blocks -/
structure VV (h H : Hp) (a b : Cvr) (bb : Nat) : Prop where
  ga : H[h.length]? = some (.live 4 [encV a])
  gb : H[bb]? = some (.live 4 [encV b])
  hx : ∃ x, H = h ++ x
theorem VV.mk' (h : Hp) (a b : Cvr) : VV h (h ++ [.live 4 [encV a]] ++ [.live 4 [encV b]]) a b (h ++ [ABlk.live 4 [encV a]]).length := ⟨below_get (top_get _ _), top_get _ _, ⟨_, List.append_assoc _ _ _⟩⟩
section
variable {H : Hp} {v : Cvr} {vb : Nat} (gv : H[vb]? = some (.live 4 [encV v]))
include gv
theorem lv0 : aLoad Tryz.prog H 26 (.ptr vb 0 0) = some (.sl v.pm 1 (v.pts.map encL)) := by rw [load_row ag26 gv (row := encV v) rfl, encV0]
theorem lv1 : aLoad Tryz.prog H 26 (.ptr vb 0 1) = some (.sl v.cm 1 (v.crs.map encL)) := by rw [load_row ag26 gv (row := encV v) rfl, encV1]
theorem lv2 : aLoad Tryz.prog H 3 (.ptr vb 0 2) = some (.int .i64 v.sam) := by rw [load_row ag3 gv (row := encV v) rfl, encV2]
theorem lv3 : aLoad Tryz.prog H 3 (.ptr vb 0 3) = some (.int .i64 v.ill) := by rw [load_row ag3 gv (row := encV v) rfl, encV3]
end
end Go.Proofs.YtocilianjfhifaaGreatDoor.Cov
/- Small things on heaps, results in cells, two lists that grow side by side; no condition. -/
namespace Go.Proofs.YtocilianjfhifaaGreatDoor.Cov
open Go Go.Proofs Go.Proofs.YtocilianjfhifaaGreatDoor.Sm Go.Proofs.YtocilianjfhifaaGreatDoor.Bins Go.RowKit

theorem end_c1 {P : Program} {a t : Nat} {R : AV → Hp → Prop} {F : Fr} {h : Hp} {x : AV} {b : Nat} (hF : F a = .ptr b 0 0) (h1 : aLoad P h t (.ptr b 0 0) = some x) : endQ P [.cell a t] R .ret F h = R x h := by simp [endQ, ares, ares1, hF, h1]
theorem end_c2 {P : Program} {a t b u : Nat} {R : AV → Hp → Prop} {F : Fr} {h : Hp} {x y : AV} {ba bb : Nat} (hF : F a = .ptr ba 0 0) (hG : F b = .ptr bb 0 0) (h1 : aLoad P h t (.ptr ba 0 0) = some x) (h2 : aLoad P h u (.ptr bb 0 0) = some y) : endQ P [.cell a t, .cell b u] R .ret F h = R (.tup [x, y]) h := by simp [endQ, ares, aresL, ares1, hF, hG, h1, h2]
theorem end_c2t {P : Program} {a t b u c : Nat} {R : AV → Hp → Prop} {F : Fr} {h : Hp} {x y : AV} {ba bb : Nat} (hF : F a = .ptr ba 0 0) (hG : F b = .ptr bb 0 0) (h1 : aLoad P h t (.ptr ba 0 0) = some x) (h2 : aLoad P h u (.ptr bb 0 0) = some y) : endQ P [.cell a t, .cell b u, .tmp c] R .ret F h = R (.tup [x, y, F c]) h := by simp [endQ, ares, aresL, ares1, hF, hG, h1, h2]
theorem end_c1t {P : Program} {a t c : Nat} {R : AV → Hp → Prop} {F : Fr} {h : Hp} {x : AV} {ba : Nat} (hF : F a = .ptr ba 0 0) (h1 : aLoad P h t (.ptr ba 0 0) = some x) : endQ P [.cell a t, .tmp c] R .ret F h = R (.tup [x, F c]) h := by simp [endQ, ares, aresL, ares1, hF, h1]
/-- what a growing list is frozen to -/
def fzG {α : Type} (k : Nat) (f : α → List AV) (ys : List α) : AV := match ys with
  | [] => .sl .nil 0 []
  | _ => .sl .any k (ys.map f)
theorem frz_outG {α : Type} {k : Nat} {f : α → List AV} {h H : Hp} {ys : List α} {v : AV} (hf : Frz f) (ho : outG k f h ys v H) (n d : Nat) (hn : n ≤ h.length) : frzF n H (d + 2) v = fzG k f ys := by
  rcases ho with ⟨rfl, rfl⟩ | ⟨hne, o, h2, rfl, h3⟩
  · rfl
  · rw [frz_own hf (Nat.le_trans hn h2) h3]
    cases ys with
    | nil => exact absurd rfl hne
    | cons _ _ => rfl
theorem fzG_cv {α : Type} {k : Nat} {f : α → List AV} {ys : List α} : CvR (fzG k f ys) (.sl (nm ys) k (ys.map f)) := by
  cases ys with
  | nil => exact CvR.sl (Cv.nil 0 k)
  | cons y ys => exact CvR.refl _
/-- appending, whatever lies below -/
theorem outG.app2 {P : Program} {t e : TypeId} {α : Type} {k bs : Nat} {f : α → List AV} {h H : Hp} {ys : List α} {v : AV} (ho : outG k f h ys v H) (hu : P.underlying t = some (.slice e)) (hs : szO P e = some k) (hz : zszO P e = some k) (hb : bytesO P e = some bs) (hbs : bs ≤ 4194304) (hl : ys.length < 8388608) (he : h.length ≤ H.length) (y : α) :
    ∃ v' H', aAppend P true H t t v (.sl .full k [f y]) = some (v', H') ∧ outG k f h (ys ++ [y]) v' H' ∧ (∀ b x, H[b]? = some x → ¬ isB v b → H'[b]? = some x) ∧ H'.length = H.length + 1 ∧ (∀ b, isB v' b → b = H.length) ∧ (∃ o l, v' = .own o 0 l) ∧ ∀ e : Hp, e.length ≤ h.length → ext e H → ext e H' := by
  have h1 : ([f y] : List (List AV)) ≠ [] := by simp
  rcases ho with ⟨rfl, rfl⟩ | ⟨hne, o, h2, rfl, h3⟩
  · exact ⟨_, _, app_nil hu hs hz hb (conts_sl H .full k [f y]) h1 (room_of (by simp) hbs), .inr ⟨by simp, H.length, he, rfl, by simp⟩, fun b x hb _ => below_getL hb, by simp, fun b hb => hb.symm, ⟨_, _, rfl⟩, fun e _ hx => hx.app _⟩
  · have hc : conts H (.own o 0 ys.length) = some (k, ys.map f) := by
      rw [conts_own h3 (by simp), List.drop_zero, List.take_of_length_le (by simp)]
    refine ⟨_, _, app_own hu hs hz hb hc (conts_sl H .full k [f y]) h1 (room_of (by simp; omega) hbs), .inr ⟨by simp, H.length, he, by simp, by simp⟩, fun b x hb hn => ?_, by simp, fun b hb => hb.symm, ⟨_, _, rfl⟩, fun e hl hx => (hx.set (Nat.le_trans hl h2) _).app _⟩
    have hn' : ¬ o = b := hn
    refine below_getL ?_
    rw [List.getElem?_set, if_neg hn']; exact hb
/-- a variable of one row is written -/
theorem st_at {P : Program} {H : Hp} {t b k j : Nat} {row cs : List AV} {v : AV} (hc : acells v = some cs) (hs : szO P t = some cs.length) (hb : H[b]? = some (.live k [row])) (hl : j + cs.length ≤ row.length) : aStore P H t (.ptr b 0 j) v = some (H.set b (.live k [splice row j cs])) := by
  rw [store_row (i := 0) hc hs hb rfl hl]; rfl
theorem mkF (h : Hp) (n : Nat) (hn : n ≤ 1048576) : aMakeSlice Tryz.prog false h 57 (.int .i64 (n : Int)) (.int .i64 (n : Int)) = some (.sl .full 1 ((zeros n).map encI), h) := by
  have hz : zeroRow Tryz.prog 3 = some [.int .i64 0] := by kernel_rfl
  have hr : room n 8 := room_of (by omega) (by omega)
  unfold aMakeSlice
  simp only [ud57, sz3, by57, hz, Int.toNat_natCast]
  rw [if_pos ⟨by omega, Int.le_refl _, hr, rfl⟩]
  simp [zeros, encI]
/-- a track -/
structure Tk where
  m : SM
  last : List Is
def encT (t : Tk) : List AV := [.sl t.m 1 (t.last.map encL)]
theorem encT_len (t : Tk) : (encT t).length = 1 := rfl
def zT : Tk := ⟨.nil, []⟩
def zV : Cvr := ⟨.nil, [], .nil, [], 0, 0⟩
def zLs (m : Mo) : List Is := m.pts.map fun _ => ⟨.nil, []⟩
def nilR : List AV := [.sl .nil 0 []]
theorem frzNil {α : Type} : Frz (fun _ : α => nilR) := fun _ _ _ _ => ⟨rfl, rfl⟩
theorem nilR_cv : CvRow nilR (encL ⟨.nil, []⟩) := CvRow.cons rfl (Cv.nil 0 1) CvRow.nil
theorem nils_cv {α : Type} {s : SM} (xs : List α) : Cv (.sl s 1 (xs.map fun _ => nilR)) (.sl s 1 ((xs.map fun _ => (⟨.nil, []⟩ : Is)).map encL)) := by
  rw [List.map_map]
  exact Cv.map fun _ _ => nilR_cv
theorem zV_cv : CvR (.agg [.sl .nil 0 [], .sl .nil 0 [], .int .i64 0, .int .i64 0]) (.agg (encV zV)) := CvR.agg (CvRL.cons (CvR.sl (Cv.nil 0 1)) (CvRL.cons (CvR.sl (Cv.nil 0 1)) (CvRL.cons (CvR.refl _) (CvRL.cons (CvR.refl _) CvRL.nil))))
theorem zT_cv : CvR (.agg [.sl .nil 0 []]) (.agg (encT zT)) := CvR.agg (CvRL.cons (CvR.sl (Cv.nil 0 1)) CvRL.nil)
def rowZ : List AV := [.sl .nil 0 [], .sl .nil 0 [], .int .i64 0, .int .i64 0]
theorem al28' (h : Hp) : aAlloc Tryz.prog h 28 = some (.ptr h.length 0 0, h ++ [.live 4 [rowZ]]) := alloc_of (row := rowZ) (by kernel_rfl)
theorem al47 (h : Hp) : aAlloc Tryz.prog h 47 = some (.ptr h.length 0 0, h ++ [.live 1 [nilR]]) := alloc_of (row := nilR) (by kernel_rfl)
theorem bd28z : aBuild Tryz.prog 28 [] = some (.agg rowZ) := by kernel_rfl
theorem bd47z : aBuild Tryz.prog 47 [] = some (.agg nilR) := by kernel_rfl
theorem stV {H : Hp} {b : Nat} {row : List AV} {v : Cvr} (hb : H[b]? = some (.live 4 [row])) (hr : row.length = 4) : aStore Tryz.prog H 28 (.ptr b 0 0) (.agg (encV v)) = some (H.set b (.live 4 [encV v])) := by
  rw [st_at (cs := encV v) rfl sz28 hb (by rw [hr]; exact Nat.le_refl 4)]
  have : splice row 0 (encV v) = encV v := by unfold splice; simp [encV_len, hr]
  rw [this]
theorem stZ {H : Hp} {b : Nat} {row : List AV} (hb : H[b]? = some (.live 4 [row])) (hr : row.length = 4) : aStore Tryz.prog H 28 (.ptr b 0 0) (.agg rowZ) = some (H.set b (.live 4 [rowZ])) := by
  rw [st_at (cs := rowZ) rfl sz28 hb (by rw [hr]; exact Nat.le_refl 4)]
  have : splice row 0 rowZ = rowZ := by unfold splice; simp [rowZ, hr]
  rw [this]
theorem stT {H : Hp} {b : Nat} {row : List AV} {t : Tk} (hb : H[b]? = some (.live 1 [row])) (hr : row.length = 1) : aStore Tryz.prog H 47 (.ptr b 0 0) (.agg (encT t)) = some (H.set b (.live 1 [encT t])) := by
  rw [st_at (cs := encT t) rfl sz47 hb (by rw [hr]; exact Nat.le_refl 1)]
  have : splice row 0 (encT t) = encT t := by unfold splice; rw [encT_len, List.take_zero, List.drop_eq_nil_of_le (by omega)]; simp
  rw [this]
theorem stNil {H : Hp} {b : Nat} {row : List AV} (hb : H[b]? = some (.live 1 [row])) (hr : row.length = 1) : aStore Tryz.prog H 47 (.ptr b 0 0) (.agg nilR) = some (H.set b (.live 1 [nilR])) := by
  rw [st_at (cs := nilR) rfl sz47 hb (by rw [hr]; exact Nat.le_refl 1)]
  have : splice row 0 nilR = nilR := by unfold splice; rw [List.take_zero, List.drop_eq_nil_of_le (by rw [hr]; exact Nat.le_refl 1)]; simp
  rw [this]
theorem ldT {h : Hp} {b : Nat} {t : Tk} (hb : h[b]? = some (.live 1 [encT t])) : aLoad Tryz.prog h 47 (.ptr b 0 0) = some (.agg (encT t)) := by
  rw [load_rowA ag47 sz47 hb rfl (by rw [encT_len]; exact Nat.le_refl 1)]; rfl
theorem ldRow28 {h : Hp} {b : Nat} {row : List AV} (hb : h[b]? = some (.live 4 [row])) (hr : row.length = 4) : aLoad Tryz.prog h 28 (.ptr b 0 0) = some (.agg row) := by
  rw [load_rowA ag28 sz28 hb rfl (by rw [hr]; exact Nat.le_refl 4), List.drop_zero, List.take_of_length_le (by omega)]
theorem ldRow47 {h : Hp} {b : Nat} {row : List AV} (hb : h[b]? = some (.live 1 [row])) (hr : row.length = 1) : aLoad Tryz.prog h 47 (.ptr b 0 0) = some (.agg row) := by
  rw [load_rowA ag47 sz47 hb rfl (by rw [hr]; exact Nat.le_refl 1), List.drop_zero, List.take_of_length_le (by omega)]
end Go.Proofs.YtocilianjfhifaaGreatDoor.Cov
/- Merging coverages: what Merge and All give, and what the measures say of sums; no condition. -/
namespace Go.Proofs.YtocilianjfhifaaGreatDoor.Cov
open Go Go.Proofs Go.Proofs.YtocilianjfhifaaGreatDoor.Sm Go.Proofs.YtocilianjfhifaaGreatDoor.Bins Go.RowKit

theorem prodN_pos {ns : List Nat} (h : ∀ n ∈ ns, 1 ≤ n) : 1 ≤ prodN ns := prodN_mono ns 0 h
/-- what fits is of moderate size -/
theorem fit2_ex {α : Type} {ok : α → Is → Bool} : ∀ {ws : List α} {xs : List Is}, fit2 ok ws xs = true → ∀ x ∈ xs, ∃ a ∈ ws, ok a x = true
  | [], [], _, x, hx => by cases hx
  | a :: ws, y :: xs, h, x, hx => by
    simp only [fit2, Bool.and_eq_true] at h
    rcases List.mem_cons.1 hx with rfl | hx
    · exact ⟨a, by simp, h.1⟩
    · obtain ⟨b, hb, hk⟩ := fit2_ex h.2 x hx
      exact ⟨b, by simp [hb], hk⟩
  | [], _ :: _, h, _, _ => by cases h
  | _ :: _, [], h, _, _ => by cases h
theorem rows_le {m : Mo} {v : Cvr} (h : fitsB m v = true) : v.pts.length = m.pts.length ∧ v.crs.length = m.crs.length ∧ (∀ x ∈ v.pts, 1 ≤ x.l.length ∧ x.l.length ≤ 64) ∧ (∀ x ∈ v.crs, 1 ≤ x.l.length ∧ x.l.length ≤ 256) := by
  have hg := good_of (fitsB_good h)
  rw [fitsB_iff] at h
  obtain ⟨_, h2, h3, _, _⟩ := h
  refine ⟨(fit2_len h2).symm, (fit2_len h3).symm, fun x hx => ?_, fun x hx => ?_⟩
  · obtain ⟨p, hp, hk⟩ := fit2_ex h2 x hx
    have := hg.full p hp
    rw [okP_len hk]; exact this
  · obtain ⟨c, hc, hk⟩ := fit2_ex h3 x hx
    have hcg := hg.crs c hc
    have hs := hg.full.szs hcg.here
    rw [okC_len hk]
    exact ⟨prodN_pos fun n hn => (hs n hn).1, hcg.prod⟩
theorem cvOk_fits {m : Mo} {v : Cvr} (h : fitsB m v = true) : CvOk v := by
  have hn := (good_of (fitsB_good h)).num
  obtain ⟨h1, h2, h3, h4⟩ := rows_le h
  exact ⟨by omega, by omega, fun x hx => by have := h3 x hx; omega, fun x hx => by have := h4 x hx; omega⟩
theorem sh2_of {α : Type} {ok : α → Is → Bool} {n : α → Nat} (hok : ∀ a x, ok a x = true → x.l.length = n a ∧ WL x.l) {ws : List α} {a b : List Is} (ha : fit2 ok ws a = true) (hb : fit2 ok ws b = true) (hr : ∀ x ∈ a, 1 ≤ x.l.length ∧ x.l.length ≤ 256) (hl : a.length ≤ 1048576) : Sh2 a b := by
  have h1 := fit2_len ha
  have h2 := fit2_len hb
  refine ⟨by omega, fun i hi hj => ?_, hl⟩
  have hw : i < ws.length := by omega
  obtain ⟨x, hx, kx⟩ := fit2_get ha i ws[i] (List.getElem?_eq_getElem hw)
  obtain ⟨y, hy, ky⟩ := fit2_get hb i ws[i] (List.getElem?_eq_getElem hw)
  rw [List.getElem?_eq_getElem hi] at hx
  rw [List.getElem?_eq_getElem hj] at hy
  cases hx; cases hy
  have q := hr _ (List.getElem_mem hi)
  refine ⟨by rw [(hok _ _ kx).1, (hok _ _ ky).1], fun e => ?_, (hok _ _ kx).2, (hok _ _ ky).2, by omega⟩
  rw [e] at q; simp at q
theorem sh2_pts {m : Mo} {a b : Cvr} (ha : fitsB m a = true) (hb : fitsB m b = true) : Sh2 a.pts b.pts := by
  have hr := rows_le ha
  have hn := (good_of (fitsB_good ha)).num
  exact sh2_of (n := fun p : Pt => p.bins.length) (fun _ _ h => ⟨okP_len h, okP_within h⟩) (fitsB_iff.1 ha).2.1 (fitsB_iff.1 hb).2.1 (fun x hx => by have := hr.2.2.1 x hx; omega) (by omega)
theorem sh2_crs {m : Mo} {a b : Cvr} (ha : fitsB m a = true) (hb : fitsB m b = true) : Sh2 a.crs b.crs := by
  have hr := rows_le ha
  have hn := (good_of (fitsB_good ha)).num
  exact sh2_of (n := fun c : Cr => prodN (szs m c.pts)) (fun _ _ h => ⟨okC_len h, okC_within h⟩) (fitsB_iff.1 ha).2.2.1 (fitsB_iff.1 hb).2.2.1 (fun x hx => hr.2.2.2 x hx) (by omega)
/-- what All gives -/
def allV (m : Mo) (l : List Cvr) : Cvr := l.foldl addV (emptyV m)
def allE (m : Mo) (l : List Cvr) : Int := if modelE m = 0 then (if l.all (fitsB m) = true then 0 else 1) else modelE m
def allR (m : Mo) (l : List Cvr) : Cvr := if allE m l = 0 then allV m l else zV
theorem allE_zero {m : Mo} {l : List Cvr} : allE m l = 0 ↔ modelE m = 0 ∧ ∀ v ∈ l, fitsB m v = true := by
  unfold allE
  split
  · rename_i h
    split
    · rename_i h2
      exact ⟨fun _ => ⟨h, List.all_eq_true.1 h2⟩, fun _ => rfl⟩
    · rename_i h2
      exact ⟨fun e => by omega, fun e => absurd (List.all_eq_true.2 e.2) h2⟩
  · rename_i h
    exact ⟨fun e => absurd e h, fun e => absurd e.1 h⟩
theorem fold_fits {m : Mo} : ∀ (l : List Cvr) (c : Cvr), fitsB m c = true → (∀ v ∈ l, fitsB m v = true) → fitsB m (l.foldl addV c) = true
  | [], _, h, _ => h
  | v :: l, c, h, hl => fold_fits l (addV c v) (fitsB_add h (hl v (by simp))) fun w hw => hl w (by simp [hw])
theorem allR_fits {m : Mo} {l : List Cvr} (h : allE m l = 0) : fitsB m (allR m l) = true := by
  have := allE_zero.1 h
  unfold allR
  rw [if_pos h]
  exact fold_fits l _ (fitsB_empty this.1) this.2
theorem dat_two {m : Mo} {a b : Cvr} (h : allE m [a, b] = 0) : datV (allR m [a, b]) = addD (datV a) (datV b) := by
  have h1 := (allE_zero.1 h).2 a (by simp)
  unfold allR allV
  rw [if_pos h]
  simp only [List.foldl_cons, List.foldl_nil, datV_add, addD_zero h1]
theorem allE_two {m : Mo} {a b : Cvr} (ha : fitsB m a = true) (hb : fitsB m b = true) : allE m [a, b] = 0 := allE_zero.2 ⟨fitsB_good ha, fun v hv => by
  simp at hv; rcases hv with rfl | rfl <;> assumption⟩
/- counts of goals -/
def cellD (l : List (List Int)) (i k : Nat) : Int := match l[i]? with
  | some x => (match x[k]? with | some z => z | none => 0)
  | none => 0
theorem cell_dat (l : List Is) (i k : Nat) : cellAt l i k = cellD (l.map (·.l)) i k := by
  unfold cellAt cellD
  rw [List.getElem?_map]
  cases l[i]? <;> rfl
theorem cellD_add {a b : List (List Int)} {i k : Nat} (ha : ∃ x z, a[i]? = some x ∧ x[k]? = some z) (hb : ∃ x z, b[i]? = some x ∧ x[k]? = some z) : cellD (addLL a b) i k = addZ (cellD a i k) (cellD b i k) := by
  obtain ⟨x, z, h1, h2⟩ := ha
  obtain ⟨y, u, k1, k2⟩ := hb
  have e1 : (addLL a b)[i]? = some (addL x y) := by unfold addLL; rw [List.getElem?_zipWith, h1, k1]
  have e2 : (addL x y)[k]? = some (addZ z u) := by unfold addL; rw [List.getElem?_zipWith, h2, k2]
  unfold cellD
  simp only [e1, e2, h1, h2, k1, k2]
theorem inL_dat {l : List Is} {i k : Nat} (h : InL l i k) : ∃ x z, (l.map (·.l))[i]? = some x ∧ x[k]? = some z := by
  obtain ⟨hi, hk⟩ := h
  exact ⟨l[i].l, l[i].l[k], by rw [List.getElem?_map, List.getElem?_eq_getElem hi]; rfl, List.getElem?_eq_getElem hk⟩
theorem countG_dat {a b : Cvr} (h : datV a = datV b) (g : Gl) : countG a g = countG b g := by
  unfold datV at h
  simp only [Dat.mk.injEq] at h
  unfold countG
  rw [cell_dat, cell_dat, cell_dat, cell_dat, h.1, h.2.1]
theorem inL_within {l : List Is} (hw : ∀ x ∈ l, WL x.l) {i k : Nat} (h : InL l i k) : withinB (cellAt l i k) = true := by
  obtain ⟨hi, hk, e⟩ := cellAt_eq h
  rw [e]
  exact hw _ (List.getElem_mem hi) _ (List.getElem_mem hk)
theorem countG_within {m : Mo} {v : Cvr} (hf : fitsB m v = true) {g : Gl} (hg : g ∈ goals m) : withinB (countG v g) = true := by
  have hi := inR_of hf hg
  rw [fitsB_iff] at hf
  obtain ⟨_, h2, h3, _, _⟩ := hf
  unfold InR at hi
  unfold countG
  split
  · rename_i hc
    rw [if_pos hc] at hi
    exact inL_within (fit2_all (ok := okC m) (fun _ _ h => okC_within h) h3) hi
  · rename_i hc
    rw [if_neg hc] at hi
    exact inL_within (fit2_all (ok := okP) (fun _ _ h => okP_within h) h2) hi
theorem countG_add {m : Mo} {a b c : Cvr} (ha : fitsB m a = true) (hb : fitsB m b = true) (hc : datV c = addD (datV a) (datV b)) {g : Gl} (hg : g ∈ goals m) : countG c g = addZ (countG a g) (countG b g) := by
  rw [countG_dat (b := addV a b) (by rw [hc, datV_add])]
  have h1 := inR_of ha hg
  have h2 := inR_of hb hg
  have e := datV_add a b
  unfold datV addD at e
  simp only [Dat.mk.injEq] at e
  unfold InR at h1 h2
  unfold countG
  split
  · rename_i hx
    rw [if_pos hx] at h1 h2
    rw [cell_dat, e.2.1, cellD_add (inL_dat h1) (inL_dat h2), ← cell_dat, ← cell_dat]
  · rename_i hx
    rw [if_neg hx] at h1 h2
    rw [cell_dat, e.1, cellD_add (inL_dat h1) (inL_dat h2), ← cell_dat, ← cell_dat]
theorem count_or {m : Mo} {a b c : Cvr} (ha : fitsB m a = true) (hb : fitsB m b = true) (hc : datV c = addD (datV a) (datV b)) {g : Gl} (hg : g ∈ goals m) : decide (countG c g > 0) = (decide (countG a g > 0) || decide (countG b g > 0)) := by
  rw [countG_add ha hb hc hg, addZ_pos (countG_within ha hg) (countG_within hb hg)]
theorem countP_or {α : Type} (p q : α → Bool) (l : List α) : l.countP (fun x => p x || q x) = l.countP p + l.countP (fun x => q x && !p x) := by
  induction l with
  | nil => rfl
  | cons x l ih =>
    simp only [List.countP_cons, ih]
    cases p x <;> cases q x <;> simp <;> omega
theorem fits_sum {m : Mo} {a b c : Cvr} (ha : fitsB m a = true) (hb : fitsB m b = true) (hc : datV c = addD (datV a) (datV b)) : fitsB m c = true := by
  rw [fitsB_dat (b := addV a b) (by rw [hc, datV_add])]
  exact fitsB_add ha hb
theorem reach_gain {m : Mo} {a b c : Cvr} (ha : fitsB m a = true) (hb : fitsB m b = true) (hc : datV c = addD (datV a) (datV b)) : reachN m c = reachN m a + gainN m a b := by
  unfold reachN gainN
  rw [if_pos ha, if_pos (fits_sum ha hb hc), if_pos ⟨ha, hb⟩]
  rw [List.countP_congr (q := fun g => decide (countG a g > 0) || decide (countG b g > 0)) fun g hg => by rw [count_or ha hb hc hg]]
  exact countP_or _ _ _
theorem reach_both {m : Mo} {a b c : Cvr} (ha : fitsB m a = true) (hb : fitsB m b = true) (hc : datV c = addD (datV a) (datV b)) : reachN m b ≤ reachN m c := by
  have := reach_gain hb ha (by rw [hc, addD_comm])
  omega
theorem gain_self (m : Mo) (a : Cvr) : gainN m a a = 0 := by
  unfold gainN
  split
  · rw [List.countP_eq_zero]
    intro g _
    unfold gainP
    cases decide (countG a g > 0) <;> simp
  · rfl
theorem gain_none {m : Mo} {a b : Cvr} (h : ¬ (fitsB m a = true ∧ fitsB m b = true)) : gainN m a b = 0 := by unfold gainN; rw [if_neg h]
theorem perc_all {m : Mo} {a : Cvr} (ha : fitsB m a = true) : (((percN m a : Nat) : Int) == 100) = ((((holesL m a).length : Nat) : Int) == 0) := by
  have h1 := reach_holes ha
  rw [Bool.eq_iff_iff]
  simp only [beq_iff_eq]
  unfold percN
  rw [if_pos ha]
  split
  · omega
  · rename_i h0
    have hle := reachN_le ha
    constructor
    · intro e
      have e' : 100 * reachN m a / goalN m = 100 := by omega
      have : 100 * goalN m ≤ 100 * reachN m a := (Nat.le_div_iff_mul_le (by omega)).1 (by omega)
      omega
    · intro e
      have : reachN m a = goalN m := by omega
      rw [this, Nat.mul_div_cancel _ (by omega)]
      rfl
theorem perc_mono {m : Mo} {a b c : Cvr} (ha : fitsB m a = true) (hb : fitsB m b = true) (hc : datV c = addD (datV a) (datV b)) : percN m a ≤ percN m c := by
  have h := reach_gain ha hb hc
  unfold percN
  rw [if_pos ha, if_pos (fits_sum ha hb hc)]
  split
  · exact Nat.le_refl _
  · exact Nat.div_le_div_right (by omega)
end Go.Proofs.YtocilianjfhifaaGreatDoor.Cov
/- The coverage without samples: the program; no condition but the bounds on lengths. -/
set_option linter.unusedSimpArgs false
set_option maxRecDepth 8000
namespace Go.Proofs.YtocilianjfhifaaGreatDoor.Cov
open Go Go.Proofs Go.Proofs.YtocilianjfhifaaGreatDoor.Sm Go.Proofs.YtocilianjfhifaaGreatDoor.Bins Go.RowKit

theorem outG.setB {α : Type} {k : Nat} {f : α → List AV} {h H : Hp} {ys : List α} {v : AV} {b : Nat} (ho : outG k f h ys v H) (hb : b < h.length) (y : ABlk) : outG k f h ys v (H.set b y) :=
  ho.keep fun b' hb' => by
    have := ho.lt hb'
    rw [List.getElem?_set_ne (by omega)]
theorem outG.keepA {α : Type} {k : Nat} {f : α → List AV} {h H H' : Hp} {ys : List α} {v u : AV} (ho : outG k f h ys v H) (hk : ∀ b x, H[b]? = some x → ¬ isB u b → H'[b]? = some x) (hd : ∀ b, isB v b → ¬ isB u b) : outG k f h ys v H' := by
  rcases ho with h1 | ⟨h1, o, h2, rfl, h3⟩
  · exact .inl h1
  · exact .inr ⟨h1, o, h2, rfl, hk _ _ h3 (hd o rfl)⟩
theorem outG.leaf {α : Type} {k : Nat} {f : α → List AV} {h H : Hp} {ys : List α} {v : AV} (ho : outG k f h ys v H) : v.leaf = true := by
  rcases ho with ⟨_, rfl⟩ | ⟨_, o, _, rfl, _⟩ <;> rfl
theorem outG.base {α : Type} {k : Nat} {f : α → List AV} {h h' H : Hp} {ys : List α} {v : AV} (ho : outG k f h ys v H) (hl : h'.length ≤ h.length) : outG k f h' ys v H := by
  rcases ho with h1 | ⟨h1, o, h2, rfl, h3⟩
  · exact .inl h1
  · exact .inr ⟨h1, o, Nat.le_trans hl h2, rfl, h3⟩
def vRow (v1 v2 : AV) : List AV := [v1, v2, .int .i64 0, .int .i64 0]
structure Em (h H : Hp) (m : Mo) (b2 b3 b4 b5 : Nat) (v1 v2 v3 : AV) : Prop where
  gm : H[h.length]? = some (.live 2 [encM m])
  g2 : H[b2]? = some (.live 4 [rowZ])
  g3 : H[b3]? = some (.live 1 [nilR])
  g4 : H[b4]? = some (.live 4 [vRow v1 v2])
  g5 : H[b5]? = some (.live 1 [[v3]])
  o2 : h.length < b2
  o3 : b2 < b3
  o4 : b3 < b4
  o5 : b4 < b5
  hx : ext h H
section
variable {h H : Hp} {m : Mo} {b2 b3 b4 b5 : Nat} {v1 v2 v3 : AV} (E : Em h H m b2 b3 b4 b5 v1 v2 v3)
include E
theorem Em.m0 : aLoad Tryz.prog H 22 (.ptr h.length 0 0) = some (.sl m.pm 6 (m.pts.map encP)) := by rw [load_row ag22 E.gm (row := encM m) rfl, encM0]
theorem Em.m1 : aLoad Tryz.prog H 23 (.ptr h.length 0 1) = some (.sl m.cm 3 (m.crs.map encC)) := by rw [load_row ag23 E.gm (row := encM m) rfl, encM1]
theorem Em.l4 : aLoad Tryz.prog H 26 (.ptr b4 0 0) = some v1 := by rw [load_row ag26 E.g4 (row := vRow v1 v2) rfl]; rfl
theorem Em.l4' : aLoad Tryz.prog H 26 (.ptr b4 0 1) = some v2 := by rw [load_row ag26 E.g4 (row := vRow v1 v2) rfl]; rfl
theorem Em.l5 : aLoad Tryz.prog H 26 (.ptr b5 0 0) = some v3 := by rw [load_row ag26 E.g5 (row := [v3]) rfl]; rfl
theorem Em.app (x : Hp) : Em h (H ++ x) m b2 b3 b4 b5 v1 v2 v3 := ⟨below_getL E.gm, below_getL E.g2, below_getL E.g3, below_getL E.g4, below_getL E.g5, E.o2, E.o3, E.o4, E.o5, E.hx.app _⟩
theorem Em.keep {H' : Hp} {u : AV} (hk : ∀ b x, H[b]? = some x → ¬ isB u b → H'[b]? = some x) (hu : ∀ b, isB u b → b5 < b) (hx : ext h H → ext h H') : Em h H' m b2 b3 b4 b5 v1 v2 v3 := by
  have o2 := E.o2; have o3 := E.o3; have o4 := E.o4; have o5 := E.o5
  exact ⟨hk _ _ E.gm (fun e => by have := hu _ e; omega), hk _ _ E.g2 (fun e => by have := hu _ e; omega), hk _ _ E.g3 (fun e => by have := hu _ e; omega), hk _ _ E.g4 (fun e => by have := hu _ e; omega), hk _ _ E.g5 (fun e => by have := hu _ e; omega), o2, o3, o4, o5, hx E.hx⟩
theorem Em.set4 (w1 w2 : AV) : Em h (H.set b4 (.live 4 [vRow w1 w2])) m b2 b3 b4 b5 w1 w2 v3 := by
  have o2 := E.o2; have o3 := E.o3; have o4 := E.o4; have o5 := E.o5
  exact ⟨get_set_ne E.gm (by omega), get_set_ne E.g2 (by omega), get_set_ne E.g3 (by omega), get_set_eq E.g4, get_set_ne E.g5 (by omega), o2, o3, o4, o5, E.hx.set (by omega) _⟩
theorem Em.set5 (w3 : AV) : Em h (H.set b5 (.live 1 [[w3]])) m b2 b3 b4 b5 v1 v2 w3 := by
  have o2 := E.o2; have o3 := E.o3; have o4 := E.o4; have o5 := E.o5
  exact ⟨get_set_ne E.gm (by omega), get_set_ne E.g2 (by omega), get_set_ne E.g3 (by omega), get_set_ne E.g4 (by omega), get_set_eq E.g5, o2, o3, o4, o5, E.hx.set (by omega) _⟩
theorem Em.s4 {o l : Nat} : aStore Tryz.prog H 26 (.ptr b4 0 0) (.own o 0 l) = some (H.set b4 (.live 4 [vRow (.own o 0 l) v2])) := st_at (row := vRow v1 v2) (ac_own _ _ _) sz26 E.g4 (by simp [vRow])
theorem Em.s4' {o l : Nat} : aStore Tryz.prog H 26 (.ptr b4 0 1) (.own o 0 l) = some (H.set b4 (.live 4 [vRow v1 (.own o 0 l)])) := st_at (row := vRow v1 v2) (ac_own _ _ _) sz26 E.g4 (by simp [vRow])
theorem Em.s5 {o l : Nat} : aStore Tryz.prog H 26 (.ptr b5 0 0) (.own o 0 l) = some (H.set b5 (.live 1 [[.own o 0 l]])) := st_at (row := [v3]) (ac_own _ _ _) sz26 E.g5 (by simp)
theorem Em.lt : b5 < H.length := lt_of_getElem? E.g5
end
theorem Em.mk' (h : Hp) (m : Mo) : Em h (h ++ [ABlk.live 2 [encM m]] ++ [ABlk.live 4 [rowZ]] ++ [ABlk.live 1 [nilR]] ++ [ABlk.live 4 [rowZ]] ++ [ABlk.live 1 [nilR]]) m (h ++ [ABlk.live 2 [encM m]]).length (h ++ [ABlk.live 2 [encM m]] ++ [ABlk.live 4 [rowZ]]).length
    (h ++ [ABlk.live 2 [encM m]] ++ [ABlk.live 4 [rowZ]] ++ [ABlk.live 1 [nilR]]).length (h ++ [ABlk.live 2 [encM m]] ++ [ABlk.live 4 [rowZ]] ++ [ABlk.live 1 [nilR]] ++ [ABlk.live 4 [rowZ]]).length (.sl .nil 0 []) (.sl .nil 0 []) (.sl .nil 0 []) :=
  ⟨below_get (below_get (below_get (below_get (top_get _ _)))), below_get (below_get (below_get (top_get _ _))), below_get (below_get (top_get _ _)), below_get (top_get _ _), top_get _ _, by simp, by simp, by simp, by simp, ((((ext.rfl' h).app _).app _).app _).app _ |>.app _⟩
theorem bs26n (h : Hp) : aBuildSlice Tryz.prog false h 26 1 [(0, .sl .nil 0 [])] = some (.sl .full 1 [nilR], h) := by kernel_rfl
theorem zPs_take (m : Mo) (i : Nat) (hi : i < m.pts.length) : (zPs m).take (i + 1) = (zPs m).take i ++ [zIs m.pts[i].bins.length] := by
  have hl : i < (zPs m).length := by unfold zPs; simpa using hi
  rw [List.take_succ_eq_append_getElem hl]; simp [zPs]
theorem zCs_take (m : Mo) (i : Nat) (hi : i < m.crs.length) : (zCs m).take (i + 1) = (zCs m).take i ++ [zIs (prodN (szs m m.crs[i].pts))] := by
  have hl : i < (zCs m).length := by unfold zCs; simpa using hi
  rw [List.take_succ_eq_append_getElem hl]; simp [zCs]
theorem zPs_len (m : Mo) : (zPs m).length = m.pts.length := by simp [zPs]
theorem zCs_len (m : Mo) : (zCs m).length = m.crs.length := by simp [zCs]
/-- what an empty coverage and track are frozen to -/
theorem empty_pure {E : Env} {f : FuncId} {args : List AV} {h : Hp} {m : Mo} (hc : ACalls E f args h fun v H => ext h H ∧ ∃ v1 v2 v3, v = .tup [.agg (vRow v1 v2), .agg [v3]] ∧ outG 1 encL h (zPs m) v1 H ∧ outG 1 encL h (zCs m) v2 H ∧ outG 1 (fun _ : Pt => nilR) h m.pts v3 H) :
    PCall E f args h (.tup [.agg (encV (emptyV m)), .agg (encT ⟨nm (zLs m), zLs m⟩)]) := by
  have hp : PCall E f args h (.tup [.agg (vRow (fzG 1 encL (zPs m)) (fzG 1 encL (zCs m))), .agg [fzG 1 (fun _ : Pt => nilR) m.pts]]) := by
    refine ACalls.pure 4 hc ?_
    rintro v H ⟨he, v1, v2, v3, rfl, o1, o2, o3⟩
    refine ⟨he, ?_⟩
    have e1 := frz_outG frzL o1 h.length 0 (Nat.le_refl _)
    have e2 := frz_outG frzL o2 h.length 0 (Nat.le_refl _)
    have e3 := frz_outG frzNil o3 h.length 0 (Nat.le_refl _)
    show AV.tup [.agg [frzF h.length H 2 v1, frzF h.length H 2 v2, .int .i64 0, .int .i64 0], .agg [frzF h.length H 2 v3]] = _
    rw [e1, e2, e3]; rfl
  refine hp.res (CvR.tup (CvRL.cons (CvR.agg (CvRL.cons fzG_cv (CvRL.cons fzG_cv (CvRL.refl _)))) (CvRL.cons (CvR.agg (CvRL.cons ?_ CvRL.nil)) CvRL.nil)))
  have h1 : CvR (fzG 1 (fun _ : Pt => nilR) m.pts) (.sl (nm m.pts) 1 (m.pts.map fun _ => nilR)) := fzG_cv
  have h2 := CvR.sl (nils_cv (s := nm m.pts) m.pts)
  have h3 : nm (zLs m) = nm m.pts := by unfold zLs; cases m.pts <;> rfl
  intro g cv hr
  have := h2 g cv (h1 g cv hr)
  rw [h3]; exact this
theorem st28v {H : Hp} {b : Nat} {row : List AV} {v1 v2 : AV} (hb : H[b]? = some (.live 4 [row])) (hr : row.length = 4) (h1 : v1.leaf = true) (h2 : v2.leaf = true) : aStore Tryz.prog H 28 (.ptr b 0 0) (.agg (vRow v1 v2)) = some (H.set b (.live 4 [vRow v1 v2])) := by
  rw [st_at (cs := vRow v1 v2) (ac_agg (by simp [vRow, h1, h2]; rfl)) sz28 hb (by rw [hr]; exact Nat.le_refl 4)]
  have : splice row 0 (vRow v1 v2) = vRow v1 v2 := by unfold splice; rw [List.take_zero, List.drop_eq_nil_of_le (by rw [hr]; exact Nat.le_refl 4)]; simp
  rw [this]
theorem st47v {H : Hp} {b : Nat} {row : List AV} {v3 : AV} (hb : H[b]? = some (.live 1 [row])) (hr : row.length = 1) (h3 : v3.leaf = true) : aStore Tryz.prog H 47 (.ptr b 0 0) (.agg [v3]) = some (H.set b (.live 1 [[v3]])) := by
  rw [st_at (cs := [v3]) (ac_agg (by simp [h3])) sz47 hb (by rw [hr]; exact Nat.le_refl 1)]
  have : splice row 0 [v3] = [v3] := by unfold splice; rw [List.take_zero, List.drop_eq_nil_of_le (by rw [hr]; exact Nat.le_refl 1)]; simp
  rw [this]
set_option maxHeartbeats 2000000 in
theorem empty_prog (G : Nat → AV) (m : Mo) (hm : MoOk m) (hg : Good m) (h : Hp) : PCall (En G) 127 [.agg (encM m)] h (.tup [.agg (encV (emptyV m)), .agg (encT ⟨nm (zLs m), zLs m⟩)]) := by
  refine empty_pure ?_
  have hm1 := hm.np
  have hm2 := hm.nc
  have hnum := hg.num
  refine acalls_of (H := hint [24, 47] []) (enM G) Tryz.func127 rfl (by kernel_rfl) (by kernel_rfl) (Nat.le_of_ble_eq_true (by kernel_rfl)) ?_
  show awp _ _ _ _ _ (endQ _ [.cell 2 28, .cell 3 47] _)
  have E := Em.mk' h m
  simp -implicitDefEqProofs only [hint_md, List.contains_cons, List.contains_nil, Nat.reduceBEq, Bool.or_false, awp_seq, awp_reg, seqQ_n, WW_one, WW_nil, frz_nil, ownOp, wc_app, wcont_s, upd_app, ev_tmp, x_alloc, x_box, x_load, x_fieldAddr, holdsO_some, holdsO_ofO, frameOf_zero, ↓reduceIte, Nat.reduceEqDiff, Nat.add_zero, Option.getD_some, Bool.not_false, enP, fa25_0, hint_fz0, bxM, al28', al47]
  generalize h ++ [ABlk.live 2 [encM m]] ++ [ABlk.live 4 [rowZ]] ++ [ABlk.live 1 [nilR]] ++ [ABlk.live 4 [rowZ]] ++ [ABlk.live 1 [nilR]] = H0 at E ⊢
  generalize (h ++ [ABlk.live 2 [encM m]] ++ [ABlk.live 4 [rowZ]] ++ [ABlk.live 1 [nilR]] ++ [ABlk.live 4 [rowZ]]).length = b5 at E ⊢
  generalize (h ++ [ABlk.live 2 [encM m]] ++ [ABlk.live 4 [rowZ]] ++ [ABlk.live 1 [nilR]]).length = b4 at E ⊢
  generalize (h ++ [ABlk.live 2 [encM m]] ++ [ABlk.live 4 [rowZ]]).length = b3 at E ⊢
  generalize (h ++ [ABlk.live 2 [encM m]]).length = b2 at E ⊢
  have o2 := E.o2; have o3 := E.o3; have o4 := E.o4; have o5 := E.o5
  have hlt0 := E.lt
  simp -implicitDefEqProofs only [hint_md, List.contains_cons, List.contains_nil, Nat.reduceBEq, Bool.or_false, awp_block, seqQ_n, WW_one, WW_nil, frz_nil, ownOp, wc_app, wcont_s, upd_app, ev_tmp, ev_const, av_int, x_move, x_len, holdsO_ofO, ↓reduceIte, Option.getD_some, Bool.not_false, enP, ln22, hint_fz0, E.m0, List.length_map]
  refine awp_lp 0 (fun F H => ∃ v1 v3, F 1 = .ptr h.length 0 0 ∧ F 2 = .ptr b2 0 0 ∧ F 3 = .ptr b3 0 0 ∧ F 4 = .ptr b4 0 0 ∧ F 5 = .ptr b5 0 0 ∧ Em h H m b2 b3 b4 b5 v1 (.sl .nil 0 []) v3 ∧ outG 1 encL H0 (zPs m) v1 H ∧ outG 1 (fun _ : Pt => nilR) H0 m.pts v3 H ∧ (∀ b, isB v1 b → ¬ isB v3 b) ∧ H0.length ≤ H.length) (fun _ _ => False) ?_ ?_ (fun _ _ hh => hh.elim)
  · refine awp_loop (fun n F H => ∃ i v1 v3, n + i = m.pts.length ∧ F 1 = .ptr h.length 0 0 ∧ F 2 = .ptr b2 0 0 ∧ F 3 = .ptr b3 0 0 ∧ F 4 = .ptr b4 0 0 ∧ F 5 = .ptr b5 0 0 ∧ F 11 = .sl m.pm 6 (m.pts.map encP) ∧ F 12 = .int .i64 m.pts.length ∧ F 13 = .int .i64 (i : Nat) ∧ Em h H m b2 b3 b4 b5 v1 (.sl .nil 0 []) v3 ∧ outG 1 encL H0 ((zPs m).take i) v1 H ∧ outG 1 (fun _ : Pt => nilR) H0 (m.pts.take i) v3 H ∧ (∀ b, isB v1 b → ¬ isB v3 b) ∧ H0.length ≤ H.length) m.pts.length
      ⟨0, _, _, by simp, by simp -implicitDefEqProofs only [upd_app, ↓reduceIte, Nat.reduceEqDiff], by simp -implicitDefEqProofs only [upd_app, ↓reduceIte, Nat.reduceEqDiff], by simp -implicitDefEqProofs only [upd_app, ↓reduceIte, Nat.reduceEqDiff], by simp -implicitDefEqProofs only [upd_app, ↓reduceIte, Nat.reduceEqDiff], by simp -implicitDefEqProofs only [upd_app, ↓reduceIte, Nat.reduceEqDiff], by simp -implicitDefEqProofs only [upd_app, ↓reduceIte, Nat.reduceEqDiff], by simp -implicitDefEqProofs only [upd_app, ↓reduceIte, Nat.reduceEqDiff], by simp -implicitDefEqProofs only [upd_app, ↓reduceIte]; rfl, E, by rw [List.take_zero]; exact outG.nil _ _ _ _, by rw [List.take_zero]; exact outG.nil _ _ _ _, fun b hb => hb.elim, Nat.le_refl _⟩ ?_
    clear E
    rintro n F H ⟨i, v1, v3, hi, f1, f2, f3, f4, f5, f11, f12, f13, E, ho1, ho3, hdis, hle⟩
    simp -implicitDefEqProofs only [hint_md, List.contains_cons, List.contains_nil, Nat.reduceBEq, Bool.or_false, awp_seq, awp_reg, awp_cond, seqQ_n, WW_one, WW_nil, frz_nil, ownOp, wc_app, wcont_s, upd_app, ev_tmp, x_bin, holdsO_ofO, bin_lss, ↓reduceIte, Option.getD_some, Bool.not_false, enP, hint_fz0, f12, f13]
    refine cond_of (fun hc => ?_) (fun hc => ?_)
    · have hi' : i < m.pts.length := by simpa using hc
      have h64 := (hg.full _ (List.getElem_mem hi')).2
      have hP := zPs_take m i hi'
      simp -implicitDefEqProofs only [hint_md, List.contains_cons, List.contains_nil, Nat.reduceBEq, Bool.or_false, awp_seq, awp_block, awp_reg, awp_skip, seqQ_n, WW_one, WW_nil, frz_nil, ownOp, wc_app, wcont_s, wcont_n, upd_app, ev_tmp, x_alloc, x_load, x_store, x_indexAddr, holdsO_some, holdsO_ofO, holdsO_ofS, ↓reduceIte, Nat.reduceEqDiff, Option.getD_some, Bool.not_false, enP, ix22, hint_fz0, Option.getD_none, f11, f13, ix_map hi', load_mapA ag56 sz56 encP_len hi', al75, st75 _ _ [.str ⟨#[]⟩, .int .i64 0, .int .i64 0, .str ⟨#[]⟩, .sl .nil 0 [], .sl .nil 0 []] rfl]
      have E1 := E.app [.live 6 [encP m.pts[i]]]
      obtain ⟨v1', H2, hap, ho1', hk1, hl2, hn1, ⟨o, l, rfl⟩, hx2⟩ := (ho1.app [.live 6 [encP m.pts[i]]]).app2 ud26 sz57 zs26 by26 (by omega) (by rw [List.length_take, zPs_len]; omega) (by simp; omega) (zIs m.pts[i].bins.length)
      rw [← hP] at ho1'
      have E2 := E1.keep hk1 (fun b hb => by have := ho1.lt hb; omega) (hx2 h (by omega))
      have E3 := E2.set4 (.own o 0 l) (.sl .nil 0 [])
      have ho3' := ((ho3.app [.live 6 [encP m.pts[i]]]).keepA hk1 (fun b hb h1 => hdis b h1 hb)).setB (b := b4) (by omega) (.live 4 [vRow (.own o 0 l) (.sl .nil 0 [])])
      have ho1'' := ho1'.setB (b := b4) (by omega) (.live 4 [vRow (.own o 0 l) (.sl .nil 0 [])])
      have hdis' : ∀ b, isB (.own o 0 l) b → ¬ isB v3 b := fun b hb h3 => by
        have h1 := hn1 b hb
        have h2 := ho3.lt h3
        simp at h1; omega
      refine awp_draw (by kernel_rfl) ?_
      simp -implicitDefEqProofs only [YO_f, evp_nil, evp_cons, hint_md, List.contains_cons, List.contains_nil, Nat.reduceBEq, Bool.or_false, dc_app, dcont_s, DD_one, y_buildSlice, y_load, y_makeSlice, y_fieldAddr, y_builtin, upd_app, ev_tmp, x_buildSlice, x_load, x_makeSlice, x_fieldAddr, x_len, x_append, holdsO_some, holdsO_ofO, ↓reduceIte, Nat.reduceEqDiff, Nat.reduceAdd, Nat.add_zero, Nat.zero_add, Option.getD_some, enP, fa28_0, ln54, fa56_2, f4, E1.l4, load_last ag54, encP5, List.length_map, mkF _ _ (show m.pts[i].bins.length ≤ 1048576 by omega), bs26a]
      refine holdsO_of (v := .own o 0 l) (h := H2) hap ?_
      simp -implicitDefEqProofs only [YO_f, hint_md, List.contains_cons, List.contains_nil, Nat.reduceBEq, Bool.or_false, dc_app, dcont_s, dcont_n, DD_nil, DD_one, y_store, y_fieldAddr, awp_reg, seqQ_n, WW_one, frz_nil, ownOp, wc_app, wcont_s, upd_app, ev_tmp, x_load, x_store, x_fieldAddr, holdsO_ofO, holdsO_ofS, ↓reduceIte, Nat.reduceEqDiff, Nat.reduceAdd, Nat.add_zero, Nat.zero_add, Option.getD_some, Bool.not_false, enP, fa28_0, fa47_0, hint_fz0, Option.getD_none, f4, f5, E2.s4]
      have hl3 : (H2.set b4 (.live 4 [vRow (.own o 0 l) (.sl .nil 0 [])])).length = H.length + 2 := by rw [List.length_set, hl2, List.length_append]; rfl
      generalize H2.set b4 (.live 4 [vRow (.own o 0 l) (.sl .nil 0 [])]) = H3 at E3 ho3' ho1'' hl3 ⊢
      obtain ⟨v3', H4, hap3, ho3'', hk3, hl4, hn3, ⟨o3', l3, rfl⟩, hx4⟩ := ho3'.app2 ud26 sz57 zs26 by26 (by omega) (by rw [List.length_take]; omega) (by omega) m.pts[i]
      rw [← List.take_succ_eq_append_getElem hi'] at ho3''
      have E4 := E3.keep hk3 (fun b hb => by have := ho3'.lt hb; omega) (hx4 h (by omega))
      have E5 := E4.set5 (.own o3' 0 l3)
      have ho1f := (ho1''.keepA hk3 hdis').setB (b := b5) (by omega) (.live 1 [[.own o3' 0 l3]])
      have ho3f := ho3''.setB (b := b5) (by omega) (.live 1 [[.own o3' 0 l3]])
      simp -implicitDefEqProofs only [evp_nil, evp_cons, hint_md, List.contains_cons, List.contains_nil, Nat.reduceBEq, Bool.or_false, WW_one, frz_nil, ownOp, wc_app, wcont_s, upd_app, ev_tmp, ev_const, av_nil, x_buildSlice, x_append, holdsO_some, holdsO_ofO, ↓reduceIte, Nat.reduceEqDiff, Option.getD_some, Bool.not_false, enP, hint_fz0, E3.l5, bs26n]
      refine holdsO_of (v := .own o3' 0 l3) (h := H4) hap3 ?_
      simp -implicitDefEqProofs only [hint_md, List.contains_cons, List.contains_nil, Nat.reduceBEq, Bool.or_false, awp_reg, seqQ_n, blk_n, rnd_n, WW_one, WW_nil, frz_nil, ownOp, wc_app, wcont_s, wcont_n, upd_app, ev_tmp, ev_const, av_int, x_move, x_store, x_bin, x_fieldAddr, holdsO_ofO, holdsO_ofS, bin_add, ↓reduceIte, Nat.reduceEqDiff, Nat.add_zero, Option.getD_some, Bool.not_false, enP, fa47_0, hint_fz0, Option.getD_none, f5, E4.s5, f13, wrap_succ (show i < 9223372036854775807 by omega)]
      refine ⟨n - 1, by omega, i + 1, .own o 0 l, .own o3' 0 l3, by omega, f1, f2, f3, f4, trivial, f11, f12, rfl, E5, ho1f, ho3f, fun b hb h3 => ?_, ?_⟩
      · have h1 := hn1 b hb
        have h2 := hn3 b h3
        rw [List.length_append] at h1
        simp at h1; omega
      · rw [List.length_set]; omega
    · have hi' : ¬ i < m.pts.length := by simpa using hc
      rw [List.take_of_length_le (by rw [zPs_len]; omega)] at ho1
      rw [List.take_of_length_le (by omega)] at ho3
      simp -implicitDefEqProofs only [awp_exit, seqQ_e, lp_e, rnd_e, upd_app, ↓reduceIte, Nat.reduceEqDiff]
      exact ⟨v1, v3, f1, f2, f3, f4, f5, E, ho1, ho3, hdis, hle⟩
  · rintro F H ⟨v1, v3, f1, f2, f3, f4, f5, E, ho1, ho3, hdis, hle⟩
    simp -implicitDefEqProofs only [hint_md, List.contains_cons, List.contains_nil, Nat.reduceBEq, Bool.or_false, awp_seq, awp_block, awp_reg, seqQ_n, blk_e, WW_one, WW_nil, frz_nil, ownOp, wc_app, wcont_s, upd_app, ev_tmp, ev_const, av_int, x_move, x_load, x_fieldAddr, x_len, holdsO_ofO, ↓reduceIte, Nat.zero_add, Option.getD_some, Bool.not_false, enP, ln23, fa25_1, hint_fz0, f1, E.m1, List.length_map]
    refine awp_lp 2 (fun F H => ∃ v2, F 2 = .ptr b2 0 0 ∧ F 3 = .ptr b3 0 0 ∧ F 4 = .ptr b4 0 0 ∧ F 5 = .ptr b5 0 0 ∧ Em h H m b2 b3 b4 b5 v1 v2 v3 ∧ outG 1 encL H0 (zPs m) v1 H ∧ outG 1 encL H0 (zCs m) v2 H ∧ outG 1 (fun _ : Pt => nilR) H0 m.pts v3 H) (fun _ _ => False) ?_ ?_ (fun _ _ hh => hh.elim)
    · refine awp_loop (fun n F H => ∃ i v2, n + i = m.crs.length ∧ F 1 = .ptr h.length 0 0 ∧ F 2 = .ptr b2 0 0 ∧ F 3 = .ptr b3 0 0 ∧ F 4 = .ptr b4 0 0 ∧ F 5 = .ptr b5 0 0 ∧ F 33 = .sl m.cm 3 (m.crs.map encC) ∧ F 34 = .int .i64 m.crs.length ∧ F 35 = .int .i64 (i : Nat) ∧ Em h H m b2 b3 b4 b5 v1 v2 v3 ∧ outG 1 encL H0 (zPs m) v1 H ∧ outG 1 encL H0 ((zCs m).take i) v2 H ∧ outG 1 (fun _ : Pt => nilR) H0 m.pts v3 H ∧ (∀ b, isB v2 b → ¬ isB v1 b ∧ ¬ isB v3 b) ∧ H0.length ≤ H.length) m.crs.length
        ⟨0, _, by simp, by simp -implicitDefEqProofs only [upd_app, ↓reduceIte, Nat.reduceEqDiff, f1], by simp -implicitDefEqProofs only [upd_app, ↓reduceIte, Nat.reduceEqDiff, f2], by simp -implicitDefEqProofs only [upd_app, ↓reduceIte, Nat.reduceEqDiff, f3], by simp -implicitDefEqProofs only [upd_app, ↓reduceIte, Nat.reduceEqDiff, f4], by simp -implicitDefEqProofs only [upd_app, ↓reduceIte, Nat.reduceEqDiff, f5], by simp -implicitDefEqProofs only [upd_app, ↓reduceIte, Nat.reduceEqDiff], by simp -implicitDefEqProofs only [upd_app, ↓reduceIte, Nat.reduceEqDiff], by simp -implicitDefEqProofs only [upd_app, ↓reduceIte]; rfl, E, ho1, by rw [List.take_zero]; exact outG.nil _ _ _ _, ho3, fun b hb => hb.elim, hle⟩ ?_
      clear f1 f2 f3 f4 f5 E ho1 ho3 hle
      rintro n F H ⟨i, v2, hi, f1, f2, f3, f4, f5, f33, f34, f35, E, ho1, ho2, ho3, hd2, hle⟩
      simp -implicitDefEqProofs only [hint_md, List.contains_cons, List.contains_nil, Nat.reduceBEq, Bool.or_false, awp_seq, awp_reg, awp_cond, seqQ_n, WW_one, WW_nil, frz_nil, ownOp, wc_app, wcont_s, upd_app, ev_tmp, x_bin, holdsO_ofO, bin_lss, ↓reduceIte, Option.getD_some, Bool.not_false, enP, hint_fz0, f34, f35]
      refine cond_of (fun hc => ?_) (fun hc => ?_)
      · have hi' : i < m.crs.length := by simpa using hc
        have hcg := hg.crs _ (List.getElem_mem hi')
        have hfs := hg.full.szs hcg.here
        have hsl := szs_len m m.crs[i].pts
        have hfour := hcg.four
        have hpr := hcg.prod
        have hC := zCs_take m i hi'
        have E1 := E.app [.live 3 [encC m.crs[i]]]
        have gc1 := top_get H (.live 3 [encC m.crs[i]])
        obtain ⟨v2', H2, hap, ho2', hk2, hl2, hn2, ⟨o, l, rfl⟩, hx2⟩ := (ho2.app [.live 3 [encC m.crs[i]]]).app2 ud26 sz57 zs26 by26 (by omega) (by rw [List.length_take, zCs_len]; omega) (by simp; omega) (zIs (prodN (szs m m.crs[i].pts)))
        rw [← hC] at ho2'
        have E2 := E1.keep hk2 (fun b hb => by have := ho2.lt hb; omega) (hx2 h (by omega))
        have E3 := E2.set4 v1 (.own o 0 l)
        have ho1' := ((ho1.app [.live 3 [encC m.crs[i]]]).keepA hk2 (fun b hb h2 => (hd2 b h2).1 hb)).setB (b := b4) (by omega) (.live 4 [vRow v1 (.own o 0 l)])
        have ho3' := ((ho3.app [.live 3 [encC m.crs[i]]]).keepA hk2 (fun b hb h2 => (hd2 b h2).2 hb)).setB (b := b4) (by omega) (.live 4 [vRow v1 (.own o 0 l)])
        have ho2'' := ho2'.setB (b := b4) (by omega) (.live 4 [vRow v1 (.own o 0 l)])
        simp -implicitDefEqProofs only [hint_md, List.contains_cons, List.contains_nil, Nat.reduceBEq, Bool.or_false, awp_seq, awp_block, awp_reg, awp_skip, seqQ_n, WW_one, WW_nil, frz_nil, ownOp, wc_app, wcont_s, wcont_n, upd_app, ev_tmp, x_alloc, x_load, x_store, x_indexAddr, holdsO_some, holdsO_ofO, holdsO_ofS, ↓reduceIte, Nat.reduceEqDiff, Option.getD_some, Bool.not_false, enP, ix23, hint_fz0, Option.getD_none, f33, f35, ix_map hi', load_mapA ag71 sz71 encC_len hi', al82, st82 _ _ [.str ⟨#[]⟩, .sl .nil 0 [], .sl .nil 0 []] rfl]
        refine awp_draw (by kernel_rfl) ?_
        simp -implicitDefEqProofs only [YO_f, hint_md, List.contains_cons, List.contains_nil, Nat.reduceBEq, Bool.or_false, dc_app, dcont_s, DD_one, y_load, y_makeSlice, y_fieldAddr, Y1_call, callP_fn, upd_app, ev_tmp, ev_func, x_load, x_makeSlice, x_fieldAddr, holdsO_ofO, List.map_cons, List.map_nil, List.append_nil, ↓reduceIte, Nat.reduceEqDiff, Nat.reduceAdd, Nat.zero_add, Option.getD_some, enP, fa28_1, f1, f4, E1.l4', ldM E1.gm, ldC gc1]
        refine ⟨_, sizes_prog G m _ _ hcg.here (by omega), ?_⟩
        try simp -implicitDefEqProofs only []
        refine ⟨_, product_prog G _ _ _ (fun n hn => (hfs n hn).2) (by omega), ?_⟩
        try simp -implicitDefEqProofs only [YO_f, evp_nil, evp_cons, hint_md, List.contains_cons, List.contains_nil, Nat.reduceBEq, Bool.or_false, Bool.or_true, dc_app, dcont_s, DD_one, y_buildSlice, y_builtin, upd_app, ev_tmp, x_buildSlice, x_append, holdsO_some, ↓reduceIte, Nat.reduceEqDiff, Nat.reduceAdd, Option.getD_some, enP, mkF _ _ (show prodN (szs m m.crs[i].pts) ≤ 1048576 by omega), bs26a]
        refine holdsO_of (v := .own o 0 l) (h := H2) hap ?_
        simp -implicitDefEqProofs only [YO_f, hint_md, List.contains_cons, List.contains_nil, Nat.reduceBEq, Bool.or_false, dc_app, dcont_s, dcont_n, DD_nil, DD_one, y_store, y_fieldAddr, awp_reg, seqQ_n, blk_n, rnd_n, WW_one, WW_nil, frz_nil, ownOp, wc_app, wcont_s, upd_app, ev_tmp, ev_const, av_int, x_move, x_store, x_bin, x_fieldAddr, holdsO_ofO, holdsO_ofS, bin_add, ↓reduceIte, Nat.reduceEqDiff, Nat.reduceAdd, Nat.zero_add, Option.getD_some, Bool.not_false, enP, fa28_1, hint_fz0, Option.getD_none, f4, E2.s4', f35, wrap_succ (show i < 9223372036854775807 by omega)]
        refine ⟨n - 1, by omega, i + 1, .own o 0 l, by omega, f1, f2, f3, trivial, f5, f33, f34, rfl, E3, ho1', ho2'', ho3', fun b hb => ⟨fun h1 => ?_, fun h3 => ?_⟩, ?_⟩
        · have h0 := hn2 b hb
          have h2 := ho1.lt h1
          rw [List.length_append] at h0
          simp at h0; omega
        · have h0 := hn2 b hb
          have h2 := ho3.lt h3
          rw [List.length_append] at h0
          simp at h0; omega
        · rw [List.length_set, hl2, List.length_append]; simp; omega
      · have hi' : ¬ i < m.crs.length := by simpa using hc
        rw [List.take_of_length_le (by rw [zCs_len]; omega)] at ho2
        simp -implicitDefEqProofs only [awp_exit, seqQ_e, lp_e, rnd_e, upd_app, ↓reduceIte, Nat.reduceEqDiff]
        exact ⟨v2, f2, f3, f4, f5, E, ho1, ho2, ho3⟩
    · rintro F' H' ⟨v2, g2, g3, g4, g5, E', q1, q2, q3⟩
      simp -implicitDefEqProofs only [awp_seq, seqQ_n, blk_e, ↓reduceIte]
      have p2 := E'.o2; have p3 := E'.o3; have p4 := E'.o4; have p5 := E'.o5
      refine awp_drawS [(5, 2)] (by kernel_rfl) ?_ ?_
      · simp -implicitDefEqProofs only [g2, g5, SepF_cons, SepF_nil, sepV_ptr, and_true]
        omega
      simp -implicitDefEqProofs only [YO_f, hint_md, List.contains_cons, List.contains_nil, Nat.reduceBEq, Bool.or_false, dc_app, dcont_s, dcont_n, DD_nil, DD_one, y_load, y_store, awp_ret, seqQ_n, upd_app, ev_tmp, x_load, x_store, holdsO_ofO, holdsO_ofS, ↓reduceIte, Nat.reduceEqDiff, Nat.reduceAdd, Nat.zero_add, Option.getD_some, enP, Option.getD_none, g2, g3, g4, g5, ldRow28 E'.g4 rfl, ldRow47 E'.g5 rfl, st28v E'.g2 rfl q1.leaf q2.leaf, st47v (get_set_ne E'.g3 (show b3 ≠ b2 by omega)) rfl q3.leaf]
      rw [end_c2 (ba := b2) (bb := b3) (by simp -implicitDefEqProofs only [upd_app, ↓reduceIte, Nat.reduceEqDiff, g2]) (by simp -implicitDefEqProofs only [upd_app, ↓reduceIte, Nat.reduceEqDiff, g3]) (ldRow28 (get_set_ne (get_set_eq E'.g2) (show b2 ≠ b3 by omega)) rfl) (ldRow47 (get_set_eq (get_set_ne E'.g3 (show b3 ≠ b2 by omega))) rfl)]
      have hs1 : ∀ {α : Type} {f : α → List AV} {ys : List α} {v : AV}, outG 1 f H0 ys v H' → outG 1 f h ys v ((H'.set b2 (.live 4 [vRow v1 v2])).set b3 (.live 1 [[v3]])) := fun q => ((q.setB (b := b2) (by omega) _).setB (b := b3) (by omega) _).base (by omega)
      exact ⟨(E'.hx.set (by omega) _).set (by omega) _, v1, v2, v3, rfl, hs1 q1, hs1 q2, hs1 q3⟩
end Go.Proofs.YtocilianjfhifaaGreatDoor.Cov
/- The coverage without samples: the reference; no condition but the bounds on lengths. -/
set_option linter.unusedSimpArgs false
set_option maxRecDepth 8000
namespace Go.Proofs.YtocilianjfhifaaGreatDoor.Cov
open Go Go.Proofs Go.Proofs.YtocilianjfhifaaGreatDoor.Sm Go.Proofs.YtocilianjfhifaaGreatDoor.Bins Go.RowKit

structure Er (h H : Hp) (m : Mo) (b2 b3 : Nat) (v1 v2 : AV) : Prop where
  gm : H[h.length]? = some (.live 2 [encM m])
  g2 : H[b2]? = some (.live 4 [rowZ])
  g3 : H[b3]? = some (.live 4 [vRow v1 v2])
  o2 : h.length < b2
  o3 : b2 < b3
  hx : ext h H
section
variable {h H : Hp} {m : Mo} {b2 b3 : Nat} {v1 v2 : AV} (E : Er h H m b2 b3 v1 v2)
include E
theorem Er.lt : b3 < H.length := lt_of_getElem? E.g3
end
theorem Er.mk' (h : Hp) (m : Mo) : Er h (h ++ [ABlk.live 2 [encM m]] ++ [ABlk.live 4 [rowZ]] ++ [ABlk.live 4 [rowZ]]) m (h ++ [ABlk.live 2 [encM m]]).length (h ++ [ABlk.live 2 [encM m]] ++ [ABlk.live 4 [rowZ]]).length (.sl .nil 0 []) (.sl .nil 0 []) :=
  ⟨below_get (below_get (top_get _ _)), below_get (top_get _ _), top_get _ _, by simp, by simp, (((ext.rfl' h).app _).app _).app _⟩
end Go.Proofs.YtocilianjfhifaaGreatDoor.Cov
/- Empty of both sides; no condition but the variables that are laid and the bounds on lengths. -/
set_option linter.unusedSimpArgs false
set_option maxRecDepth 8000
namespace Go.Proofs.YtocilianjfhifaaGreatDoor.Cov
open Go Go.Proofs Go.Proofs.YtocilianjfhifaaGreatDoor.Sm Go.Proofs.YtocilianjfhifaaGreatDoor.Bins Go.RowKit

theorem pureT {E : Env} {f : FuncId} {args : List AV} {h : Hp} {r : AV} (d : Nat) (hr : ∀ n H, frzF n H d r = r) (hc : ACalls E f args h fun v H => v = r ∧ ext h H) : PCall E f args h r :=
  ACalls.pure d hc fun v H ⟨e, he⟩ => ⟨he, by rw [e]; exact hr _ _⟩
def emV (m : Mo) : Cvr := if modelE m = 0 then emptyV m else zV
def emT (m : Mo) : Tk := if modelE m = 0 then ⟨nm (zLs m), zLs m⟩ else zT
structure Ee (h H : Hp) (m : Mo) (b2 b3 : Nat) : Prop where
  gm : H[h.length]? = some (ABlk.live 2 [encM m])
  g2 : H[b2]? = some (ABlk.live 4 [rowZ])
  g3 : H[b3]? = some (ABlk.live 1 [nilR])
  o2 : h.length < b2
  o3 : b2 < b3
  hx : ext h H
theorem Ee.mk' (h : Hp) (m : Mo) : Ee h (h ++ [ABlk.live 2 [encM m]] ++ [ABlk.live 4 [rowZ]] ++ [ABlk.live 1 [nilR]]) m (h ++ [ABlk.live 2 [encM m]]).length (h ++ [ABlk.live 2 [encM m]] ++ [ABlk.live 4 [rowZ]]).length :=
  ⟨below_get (below_get (top_get _ _)), below_get (top_get _ _), top_get _ _, by simp, by simp, (((ext.rfl' h).app _).app _).app _⟩
theorem Ee.lt {h H : Hp} {m : Mo} {b2 b3 : Nat} (E : Ee h H m b2 b3) : b3 < H.length := lt_of_getElem? E.g3
/-- what is laid of an Empty's results, above what was -/
theorem lay0 (H0 : Hp) (c : Cvr) (t : Tk) :
    aStore Tryz.prog (H0 ++ [ABlk.live 4 [rowZ]] ++ [ABlk.live 1 [nilR]]) 28 (.ptr H0.length 0 0) (.agg (encV c)) = some ((H0 ++ [ABlk.live 4 [rowZ]] ++ [ABlk.live 1 [nilR]]).set H0.length (ABlk.live 4 [encV c])) ∧
    aStore Tryz.prog ((H0 ++ [ABlk.live 4 [rowZ]] ++ [ABlk.live 1 [nilR]]).set H0.length (ABlk.live 4 [encV c])) 47 (.ptr (H0 ++ [ABlk.live 4 [rowZ]]).length 0 0) (.agg (encT t)) = some (((H0 ++ [ABlk.live 4 [rowZ]] ++ [ABlk.live 1 [nilR]]).set H0.length (ABlk.live 4 [encV c])).set (H0 ++ [ABlk.live 4 [rowZ]]).length (ABlk.live 1 [encT t])) ∧
    (((H0 ++ [ABlk.live 4 [rowZ]] ++ [ABlk.live 1 [nilR]]).set H0.length (ABlk.live 4 [encV c])).set (H0 ++ [ABlk.live 4 [rowZ]]).length (ABlk.live 1 [encT t]))[H0.length]? = some (ABlk.live 4 [encV c]) ∧
    (((H0 ++ [ABlk.live 4 [rowZ]] ++ [ABlk.live 1 [nilR]]).set H0.length (ABlk.live 4 [encV c])).set (H0 ++ [ABlk.live 4 [rowZ]]).length (ABlk.live 1 [encT t]))[(H0 ++ [ABlk.live 4 [rowZ]]).length]? = some (ABlk.live 1 [encT t]) ∧
    ext H0 (((H0 ++ [ABlk.live 4 [rowZ]] ++ [ABlk.live 1 [nilR]]).set H0.length (ABlk.live 4 [encV c])).set (H0 ++ [ABlk.live 4 [rowZ]]).length (ABlk.live 1 [encT t])) :=
  ⟨stV (below_get (top_get _ _)) rfl, stT (get_set_ne (top_get _ _) (by simp)) rfl, get_set_ne (get_set_eq (below_get (top_get _ _))) (by simp), get_set_eq (get_set_ne (top_get _ _) (by simp)), ((((ext.rfl' H0).app _).app _).set (Nat.le_refl _) _).set (by simp) _⟩
theorem ext_getL {h H : Hp} {b : Nat} {x : ABlk} (he : ext h H) (hb : h[b]? = some x) : H[b]? = some x := by
  obtain ⟨y, rfl⟩ := he
  exact below_getL hb
theorem err_cv (e : Int) : CvR (.tup [.agg rowZ, .agg nilR, .int .i64 e]) (.tup [.agg (encV zV), .agg (encT zT), .int .i64 e]) := CvR.tup (CvRL.cons zV_cv (CvRL.cons zT_cv (CvRL.refl _)))
set_option maxHeartbeats 1000000 in
theorem Empty_prog (G : Nat → AV) (hG : GOk G) (m : Mo) (hm : MoOk m) (h : Hp) : PCall (En G) 67 [.agg (encM m)] h (.tup [.agg (encV (emV m)), .agg (encT (emT m)), .int .i64 (modelE m)]) := by
  by_cases h0 : modelE m = 0
  · have hb : (modelE m == 0) = true := by simpa using h0
    unfold emV emT
    rw [if_pos h0, if_pos h0]
    have hg := good_of h0
    refine pureT 3 (fun n H => rfl) ?_
    refine acalls_of (H := Hint.none) (enM G) Tryz.func67 rfl (by kernel_rfl) (by kernel_rfl) (Nat.le_of_ble_eq_true (by kernel_rfl)) ?_
    show awp _ _ _ _ _ (endQ _ [.cell 2 28, .cell 3 47, .tmp 4] _)
    have E := Ee.mk' h m
    simp -implicitDefEqProofs only [awp_seq, awp_reg, seqQ_n, WW_one, WW_nil, none_md, none_fz, frz_nil, ownOp, wc_app, wcont_s, upd_app, ev_tmp, ev_const, av_int, x_assign, x_alloc, x_box, x_load, holdsO_some, frameOf_zero, ↓reduceIte, Nat.reduceEqDiff, Option.getD_some, Bool.not_false, enP, bxM, al28', al47]
    generalize h ++ [ABlk.live 2 [encM m]] ++ [ABlk.live 4 [rowZ]] ++ [ABlk.live 1 [nilR]] = H0 at E ⊢
    generalize (h ++ [ABlk.live 2 [encM m]] ++ [ABlk.live 4 [rowZ]]).length = b3 at E ⊢
    generalize (h ++ [ABlk.live 2 [encM m]]).length = b2 at E ⊢
    have o2 := E.o2; have o3 := E.o3; have hlt := E.lt
    simp -implicitDefEqProofs only [WW_one, none_md, none_fz, frz_nil, ownOp, wc_app, wcont_s, upd_app, ev_tmp, ev_func, X1_call, callA_fn, holdsO_ofO, List.map_cons, List.map_nil, List.append_nil, ↓reduceIte, Option.getD_some, Bool.not_false, ldM E.gm]
    refine (model_prog G hG m hm _).use ?_
    simp -implicitDefEqProofs only [awp_seq, awp_reg, awp_skip, awp_cond, seqQ_n, cond_f, WW_one, WW_nil, none_md, none_fz, frz_nil, ownOp, wc_app, wcont_s, upd_app, ev_tmp, ev_const, ev_func, av_int, x_move, x_assign, x_load, x_bin, X1_call, callA_fn, holdsO_ofO, bin_neq, List.map_cons, List.map_nil, List.append_nil, ↓reduceIte, Nat.reduceEqDiff, Option.getD_some, Bool.not_true, Bool.not_false, enP, bne, hb, ldM E.gm]
    refine (empty_prog G m hm hg _).use ?_
    obtain ⟨s1, s2, g6, g7, hx5⟩ := lay0 H0 (emptyV m) ⟨nm (zLs m), zLs m⟩
    have g2 := ext_getL hx5 E.g2
    have g3 := ext_getL hx5 E.g3
    have hx := E.hx.trans hx5
    have h7 : b2 < (H0 ++ [ABlk.live 4 [rowZ]]).length := by simp; omega
    simp -implicitDefEqProofs only [List.getElem?_cons_zero, List.getElem?_cons_succ, awp_seq, seqQ_n, WW_one, WW_nil, none_md, none_fz, frz_nil, ownOp, wc_app, wcont_s, wcont_n, upd_app, ev_tmp, x_move, x_alloc, x_store, x_extract, ext_tup, holdsO_some, holdsO_ofO, holdsO_ofS, ↓reduceIte, Nat.reduceEqDiff, Option.getD_some, Bool.not_false, enP, Option.getD_none, al28', al47, s1, s2]
    generalize ((H0 ++ [ABlk.live 4 [rowZ]] ++ [ABlk.live 1 [nilR]]).set H0.length (ABlk.live 4 [encV (emptyV m)])).set (H0 ++ [ABlk.live 4 [rowZ]]).length (ABlk.live 1 [encT ⟨nm (zLs m), zLs m⟩]) = H5 at g6 g7 g2 g3 hx ⊢
    generalize (H0 ++ [ABlk.live 4 [rowZ]]).length = b7 at g7 h7 ⊢
    refine awp_drawS [(7, 2)] (by kernel_rfl) ?_ ?_
    · simp -implicitDefEqProofs only [upd_app, ↓reduceIte, Nat.reduceEqDiff, SepF_cons, SepF_nil, sepV_ptr, and_true]
      omega
    simp -implicitDefEqProofs only [YO_f, dc_app, dcont_s, dcont_n, DD_nil, DD_one, y_assign, y_load, y_store, awp_ret, seqQ_n, none_md, upd_app, ev_tmp, ev_const, av_int, x_load, x_store, holdsO_ofO, holdsO_ofS, ↓reduceIte, Nat.reduceEqDiff, Nat.reduceAdd, Nat.zero_add, Option.getD_some, enP, Option.getD_none, ldV g6, ldT g7, stV g2 rfl, stT (get_set_ne g3 (show b3 ≠ b2 by omega)) rfl]
    rw [end_c2t (ba := b2) (bb := b3) (by simp -implicitDefEqProofs only [upd_app, ↓reduceIte, Nat.reduceEqDiff]) (by simp -implicitDefEqProofs only [upd_app, ↓reduceIte, Nat.reduceEqDiff]) (ldV (get_set_ne (get_set_eq g2) (show b2 ≠ b3 by omega))) (ldT (get_set_eq (get_set_ne g3 (show b3 ≠ b2 by omega))))]
    exact ⟨by simp -implicitDefEqProofs only [upd_app, ↓reduceIte, h0], (hx.set (by omega) _).set (by omega) _⟩
  · have hb : (modelE m == 0) = false := by simpa using h0
    unfold emV emT
    rw [if_neg h0, if_neg h0]
    refine PCall.res ?_ (err_cv _)
    refine pureT 3 (fun n H => rfl) ?_
    refine acalls_of (H := Hint.none) (enM G) Tryz.func67 rfl (by kernel_rfl) (by kernel_rfl) (Nat.le_of_ble_eq_true (by kernel_rfl)) ?_
    show awp _ _ _ _ _ (endQ _ [.cell 2 28, .cell 3 47, .tmp 4] _)
    have E := Ee.mk' h m
    simp -implicitDefEqProofs only [awp_seq, awp_reg, seqQ_n, WW_one, WW_nil, none_md, none_fz, frz_nil, ownOp, wc_app, wcont_s, upd_app, ev_tmp, ev_const, av_int, x_assign, x_alloc, x_box, x_load, holdsO_some, frameOf_zero, ↓reduceIte, Nat.reduceEqDiff, Option.getD_some, Bool.not_false, enP, bxM, al28', al47]
    generalize h ++ [ABlk.live 2 [encM m]] ++ [ABlk.live 4 [rowZ]] ++ [ABlk.live 1 [nilR]] = H0 at E ⊢
    generalize (h ++ [ABlk.live 2 [encM m]] ++ [ABlk.live 4 [rowZ]]).length = b3 at E ⊢
    generalize (h ++ [ABlk.live 2 [encM m]]).length = b2 at E ⊢
    have o2 := E.o2; have o3 := E.o3; have hlt := E.lt
    simp -implicitDefEqProofs only [WW_one, none_md, none_fz, frz_nil, ownOp, wc_app, wcont_s, upd_app, ev_tmp, ev_func, X1_call, callA_fn, holdsO_ofO, List.map_cons, List.map_nil, List.append_nil, ↓reduceIte, Option.getD_some, Bool.not_false, ldM E.gm]
    refine (model_prog G hG m hm _).use ?_
    simp -implicitDefEqProofs only [evp_nil, awp_seq, awp_reg, awp_ret, awp_cond, seqQ_n, seqQ_r, cond_t, WW_one, WW_nil, none_md, none_fz, frz_nil, ownOp, wc_app, wcont_s, wcont_n, upd_app, ev_tmp, ev_const, av_int, x_move, x_assign, x_build, x_store, x_bin, holdsO_ofO, holdsO_ofS, bin_neq, ↓reduceIte, Nat.reduceEqDiff, Option.getD_some, Bool.not_false, enP, Option.getD_none, bne, hb, bd28z, bd47z, stZ E.g2 rfl, stNil (get_set_ne E.g3 (show b3 ≠ b2 by omega)) rfl]
    rw [end_c2t (ba := b2) (bb := b3) (by simp -implicitDefEqProofs only [upd_app, ↓reduceIte, Nat.reduceEqDiff]) (by simp -implicitDefEqProofs only [upd_app, ↓reduceIte, Nat.reduceEqDiff]) (ldRow28 (get_set_ne (get_set_eq E.g2) (show b2 ≠ b3 by omega)) rfl) (ldRow47 (get_set_eq (get_set_ne E.g3 (show b3 ≠ b2 by omega))) rfl)]
    exact ⟨by simp -implicitDefEqProofs only [upd_app, ↓reduceIte], (E.hx.set (by omega) _).set (by omega) _⟩
end Go.Proofs.YtocilianjfhifaaGreatDoor.Cov
/- merge.merge, and the reference's Merge; no condition but the variables that are laid and the bounds on lengths. -/
set_option linter.unusedSimpArgs false
set_option maxRecDepth 8000
namespace Go.Proofs.YtocilianjfhifaaGreatDoor.Cov
open Go Go.Proofs Go.Proofs.YtocilianjfhifaaGreatDoor.Sm Go.Proofs.YtocilianjfhifaaGreatDoor.Bins Go.RowKit

theorem stVtop (h : Hp) (v : Cvr) : aStore Tryz.prog (h ++ [ABlk.live 4 [rowZ]]) 28 (.ptr h.length 0 0) (.agg (encV v)) = some (h ++ [ABlk.live 4 [encV v]]) := by rw [stV (top_get _ _) rfl, set_top]
theorem bd28 (s t : SM) (xs ys : List (List AV)) (a b : Int) : aBuild Tryz.prog 28 [(0, .sl s 1 xs), (1, .sl t 1 ys), (2, .int .i64 a), (3, .int .i64 b)] = some (.agg [.sl s 1 xs, .sl t 1 ys, .int .i64 a, .int .i64 b]) := by kernel_rfl
theorem bs37 (h : Hp) (a b : Cvr) : aBuildSlice Tryz.prog false h 37 2 [(0, .agg (encV a)), (1, .agg (encV b))] = some (.sl .full 4 ([a, b].map encV), h) := by
  have h1 : Tryz.prog.underlying 37 = some (.slice 28) := by kernel_rfl
  have h3 : zszO Tryz.prog 28 = some 4 := by kernel_rfl
  unfold aBuildSlice
  simp only [h1, sz28, h3]
  have h2 : rowsA 4 0 [(0, AV.agg (encV a)), (1, AV.agg (encV b))] = some [encV a, encV b] := rfl
  have fr : ∀ x : Cvr, (encV x).all AV.frozen = true := fun _ => rfl
  simp [h2, fr]
theorem fold_step (l : List Cvr) (e : Cvr) (i : Nat) (hi : i < l.length) : (l.take (i + 1)).foldl addV e = addV ((l.take i).foldl addV e) l[i] := by
  rw [List.take_succ_eq_append_getElem hi, List.foldl_append]; rfl
structure Mg (h H : Hp) (b4 b5 : Nat) (c : Cvr) : Prop where
  g4 : H[b4]? = some (ABlk.live 4 [rowZ])
  g5 : H[b5]? = some (ABlk.live 4 [encV c])
  o4 : h.length < b4
  o5 : b4 < b5
  hx : ext h H
set_option maxHeartbeats 2000000 in
theorem merge_prog (G : Nat → AV) (m : Mo) (e : Cvr) (l : List Cvr) (s : SM) (h : Hp) (he : fitsB m e = true) (hl : ∀ v ∈ l, fitsB m v = true) (hn : l.length ≤ 1048576) : PCall (En G) 85 [.agg (encV e), .sl s 4 (l.map encV)] h (.agg (encV (l.foldl addV e))) := by
  refine pureT 2 (fun n H => rfl) ?_
  refine acalls_of (H := Hint.none) (enM G) Tryz.func85 rfl (by kernel_rfl) (by kernel_rfl) (Nat.le_of_ble_eq_true (by kernel_rfl)) ?_
  show awp _ _ _ _ _ (endQ _ [.cell 4 28] _)
  have E : Mg h (h ++ [ABlk.live 4 [encV e]] ++ [ABlk.live 4 [rowZ]] ++ [ABlk.live 4 [encV e]]) (h ++ [ABlk.live 4 [encV e]]).length (h ++ [ABlk.live 4 [encV e]] ++ [ABlk.live 4 [rowZ]]).length e :=
    ⟨below_get (top_get _ _), top_get _ _, by simp, by simp, (((ext.rfl' h).app _).app _).app _⟩
  have g1 : (h ++ [ABlk.live 4 [encV e]] ++ [ABlk.live 4 [rowZ]])[h.length]? = some (ABlk.live 4 [encV e]) := below_get (top_get _ _)
  simp -implicitDefEqProofs only [awp_seq, awp_block, awp_reg, seqQ_n, WW_one, WW_nil, none_md, none_fz, frz_nil, ownOp, wc_app, wcont_s, wcont_n, upd_app, ev_tmp, ev_const, av_int, x_move, x_alloc, x_box, x_load, x_store, x_len, holdsO_some, holdsO_ofO, holdsO_ofS, frameOf_zero, frameOf_succ, ↓reduceIte, Nat.reduceEqDiff, Option.getD_some, Bool.not_false, enP, ln37, Option.getD_none, bxV, al28', ldV g1, stVtop, List.length_map]
  generalize h ++ [ABlk.live 4 [encV e]] ++ [ABlk.live 4 [rowZ]] ++ [ABlk.live 4 [encV e]] = H0 at E ⊢
  generalize (h ++ [ABlk.live 4 [encV e]] ++ [ABlk.live 4 [rowZ]]).length = b5 at E ⊢
  generalize (h ++ [ABlk.live 4 [encV e]]).length = b4 at E ⊢
  refine awp_loop (fun n F H => ∃ i, n + i = l.length ∧ F 4 = .ptr b4 0 0 ∧ F 5 = .ptr b5 0 0 ∧ F 9 = .sl s 4 (l.map encV) ∧ F 10 = .int .i64 l.length ∧ F 11 = .int .i64 (i : Nat) ∧ Mg h H b4 b5 ((l.take i).foldl addV e)) l.length ⟨0, by simp, by simp -implicitDefEqProofs only [upd_app, ↓reduceIte, Nat.reduceEqDiff], by simp -implicitDefEqProofs only [upd_app, ↓reduceIte, Nat.reduceEqDiff], by simp -implicitDefEqProofs only [upd_app, ↓reduceIte, Nat.reduceEqDiff], by simp -implicitDefEqProofs only [upd_app, ↓reduceIte, Nat.reduceEqDiff], by simp -implicitDefEqProofs only [upd_app, ↓reduceIte]; rfl, by rw [List.take_zero]; exact E⟩ ?_
  clear E g1
  rintro n F H ⟨i, hi, f4, f5, f9, f10, f11, E⟩
  have o4 := E.o4; have o5 := E.o5
  simp -implicitDefEqProofs only [awp_seq, awp_reg, awp_cond, seqQ_n, WW_one, WW_nil, none_md, none_fz, frz_nil, ownOp, wc_app, wcont_s, upd_app, ev_tmp, x_bin, holdsO_ofO, bin_lss, ↓reduceIte, Option.getD_some, Bool.not_false, enP, f10, f11]
  refine cond_of (fun hc => ?_) (fun hc => ?_)
  · have hi' : i < l.length := by simpa using hc
    have hs := fold_step l e i hi'
    have hc1 := fold_fits (l.take i) e he (fun v hv => hl v (List.mem_of_mem_take hv))
    have hv1 := hl _ (List.getElem_mem hi')
    generalize (l.take i).foldl addV e = c at hs hc1 E
    have gc : (H ++ [ABlk.live 4 [encV l[i]]])[b5]? = some (ABlk.live 4 [encV c]) := below_get E.g5
    have gv := top_get H (ABlk.live 4 [encV l[i]])
    have w1 := withinB_iff.1 (fitsB_iff.1 hc1).2.2.2.1
    simp -implicitDefEqProofs only [awp_seq, awp_block, awp_reg, awp_skip, seqQ_n, WW_one, WW_nil, none_md, none_fz, frz_nil, ownOp, wc_app, wcont_s, wcont_n, upd_app, ev_tmp, x_alloc, x_load, x_store, x_indexAddr, holdsO_some, holdsO_ofO, holdsO_ofS, ↓reduceIte, Nat.reduceEqDiff, Option.getD_some, Bool.not_false, enP, ix37, Option.getD_none, f9, f11, ix_map hi', load_mapA ag28 sz28 encV_len hi', al28', stVtop]
    refine awp_draw (by kernel_rfl) ?_
    simp -implicitDefEqProofs only [YO_f, dc_app, dcont_s, DD_one, y_load, y_fieldAddr, Y1_call, callP_fn, none_md, upd_app, ev_tmp, ev_func, x_load, x_fieldAddr, holdsO_ofO, List.map_cons, List.map_nil, List.append_nil, ↓reduceIte, Nat.reduceEqDiff, Nat.reduceAdd, Nat.add_zero, Nat.zero_add, Option.getD_some, enP, fa28_0, fa28_1, f5, lv0 gc, lv0 gv]
    refine ⟨_, lists_prog G _ _ _ _ _ (sh2_pts hc1 hv1), ?_⟩
    try simp -implicitDefEqProofs only [YO_f, dc_app, dcont_s, DD_one, y_load, y_fieldAddr, Y1_call, callP_fn, none_md, upd_app, ev_tmp, ev_func, x_load, x_fieldAddr, holdsO_ofO, List.map_cons, List.map_nil, List.append_nil, ↓reduceIte, Nat.reduceEqDiff, Nat.reduceAdd, Nat.zero_add, Option.getD_some, enP, fa28_1, fa28_2, f5, lv1 gc, lv1 gv]
    refine ⟨_, lists_prog G _ _ _ _ _ (sh2_crs hc1 hv1), ?_⟩
    try simp -implicitDefEqProofs only [YO_f, dc_app, dcont_s, DD_one, y_load, y_fieldAddr, Y1_call, callP_fn, none_md, upd_app, ev_tmp, ev_func, x_load, x_fieldAddr, holdsO_ofO, List.map_cons, List.map_nil, List.append_nil, ↓reduceIte, Nat.reduceEqDiff, Nat.reduceAdd, Nat.zero_add, Option.getD_some, enP, fa28_2, fa28_3, f5, lv2 gc, lv2 gv]
    refine ⟨_, add_prog G _ _ _ (fitsB_iff.1 hc1).2.2.2.1 (fitsB_iff.1 hv1).2.2.2.1, ?_⟩
    try simp -implicitDefEqProofs only [YO_f, evp_nil, evp_cons, dc_app, dcont_s, DD_one, y_build, y_load, y_fieldAddr, Y1_call, callP_fn, none_md, upd_app, ev_tmp, ev_func, x_build, x_load, x_fieldAddr, holdsO_ofO, List.map_cons, List.map_nil, List.append_nil, ↓reduceIte, Nat.reduceEqDiff, Nat.reduceAdd, Nat.zero_add, Option.getD_some, enP, fa28_3, f5, lv3 gc, lv3 gv]
    refine ⟨_, add_prog G _ _ _ (fitsB_iff.1 hc1).2.2.2.2 (fitsB_iff.1 hv1).2.2.2.2, ?_⟩
    have hst := stV (v := addV c l[i]) gc rfl
    have hst' : aStore Tryz.prog (H ++ [ABlk.live 4 [encV l[i]]]) 28 (.ptr b5 0 0) (.agg [.sl (nm (addLs c.pts l[i].pts)) 1 ((addLs c.pts l[i].pts).map encL), .sl (nm (addLs c.crs l[i].crs)) 1 ((addLs c.crs l[i].crs).map encL), .int .i64 (addZ c.sam l[i].sam), .int .i64 (addZ c.ill l[i].ill)]) = some ((H ++ [ABlk.live 4 [encV l[i]]]).set b5 (ABlk.live 4 [encV (addV c l[i])])) := hst
    try simp -implicitDefEqProofs only [YO_f, dc_app, dcont_s, dcont_n, DD_nil, DD_one, y_store, awp_reg, seqQ_n, blk_n, rnd_n, WW_one, WW_nil, none_md, none_fz, frz_nil, ownOp, wc_app, wcont_s, upd_app, ev_tmp, ev_const, av_int, x_move, x_store, x_bin, holdsO_ofO, holdsO_ofS, bin_add, ↓reduceIte, Nat.reduceEqDiff, Nat.zero_add, Option.getD_some, Bool.not_false, enP, Option.getD_none, bd28, f5, hst', f11, wrap_succ (show i < 9223372036854775807 by omega)]
    refine ⟨n - 1, by omega, i + 1, by omega, f4, trivial, f9, f10, rfl, ?_⟩
    rw [hs]
    exact ⟨get_set_ne (below_get E.g4) (by omega), get_set_eq gc, o4, o5, (E.hx.app _).set (by omega) _⟩
  · have hi' : ¬ i < l.length := by simpa using hc
    rw [List.take_of_length_le (by omega)] at E
    simp -implicitDefEqProofs only [awp_seq, awp_reg, awp_ret, awp_exit, seqQ_n, seqQ_e, blk_e, rnd_e, WW_one, WW_nil, none_md, none_fz, frz_nil, ownOp, wc_app, wcont_s, wcont_n, upd_app, ev_tmp, x_load, x_store, holdsO_ofO, holdsO_ofS, ↓reduceIte, Nat.reduceEqDiff, Option.getD_some, Bool.not_false, enP, Option.getD_none, f4, f5, ldV E.g5, stV E.g4 rfl]
    rw [end_c1 (b := b4) (by simp -implicitDefEqProofs only [upd_app, ↓reduceIte, Nat.reduceEqDiff, f4]) (ldV (get_set_eq E.g4))]
    exact ⟨rfl, E.hx.set (by omega) _⟩
theorem allE_bad {m : Mo} {l : List Cvr} (h : modelE m ≠ 0) : allE m l = modelE m := by unfold allE; rw [if_neg h]
theorem allE_one {m : Mo} {l : List Cvr} (h : modelE m = 0) {v : Cvr} (hv : v ∈ l) (hf : fitsB m v = false) : allE m l = 1 := by
  unfold allE
  rw [if_pos h, if_neg]
  intro e
  rw [List.all_eq_true.1 e v hv] at hf
  cases hf
structure Mr (h H : Hp) (m : Mo) (a b : Cvr) (b4 b5 b6 : Nat) : Prop where
  gm : H[h.length]? = some (ABlk.live 2 [encM m])
  ga : H[b4]? = some (ABlk.live 4 [encV a])
  gb : H[b5]? = some (ABlk.live 4 [encV b])
  g6 : H[b6]? = some (ABlk.live 4 [rowZ])
  o4 : h.length < b4
  o5 : b4 < b5
  o6 : b5 < b6
  hx : ext h H
theorem Mr.mk' (h : Hp) (m : Mo) (a b : Cvr) : Mr h (h ++ [ABlk.live 2 [encM m]] ++ [ABlk.live 4 [encV a]] ++ [ABlk.live 4 [encV b]] ++ [ABlk.live 4 [rowZ]]) m a b (h ++ [ABlk.live 2 [encM m]]).length (h ++ [ABlk.live 2 [encM m]] ++ [ABlk.live 4 [encV a]]).length (h ++ [ABlk.live 2 [encM m]] ++ [ABlk.live 4 [encV a]] ++ [ABlk.live 4 [encV b]]).length :=
  ⟨below_get (below_get (below_get (top_get _ _))), below_get (below_get (top_get _ _)), below_get (top_get _ _), top_get _ _, by simp, by simp, by simp, ((((ext.rfl' h).app _).app _).app _).app _⟩
end Go.Proofs.YtocilianjfhifaaGreatDoor.Cov
/- merge.All, merge.Merge, the reference's All; no condition but the variables that are laid, the bounds on lengths, and cover.tuple's contract. -/
set_option linter.unusedSimpArgs false
set_option maxRecDepth 8000
namespace Go.Proofs.YtocilianjfhifaaGreatDoor.Cov
open Go Go.Proofs Go.Proofs.YtocilianjfhifaaGreatDoor.Sm Go.Proofs.YtocilianjfhifaaGreatDoor.Bins Go.RowKit

def rawR (m : Mo) (l : List Cvr) : List AV := if allE m l = 0 then encV (allV m l) else rowZ
theorem rawR_cv (m : Mo) (l : List Cvr) (e : Int) : CvR (.tup [.agg (rawR m l), .int .i64 e]) (.tup [.agg (encV (allR m l)), .int .i64 e]) := by
  unfold rawR allR
  split
  · exact CvR.refl _
  · exact CvR.tup (CvRL.cons zV_cv (CvRL.refl _))
theorem rawR_frz (m : Mo) (l : List Cvr) (e : Int) (n : Nat) (H : Hp) : frzF n H 3 (.tup [.agg (rawR m l), .int .i64 e]) = .tup [.agg (rawR m l), .int .i64 e] := by
  unfold rawR; split <;> rfl
theorem rawR_bad {m : Mo} {l : List Cvr} (h : allE m l ≠ 0) : rawR m l = rowZ := by unfold rawR; rw [if_neg h]
/-- a model, a result, a coverage and a track in blocks -/
structure Al (h H : Hp) (m : Mo) (c : Cvr) (b4 b6 : Nat) : Prop where
  gm : H[h.length]? = some (ABlk.live 2 [encM m])
  g4 : H[b4]? = some (ABlk.live 4 [rowZ])
  g6 : H[b6]? = some (ABlk.live 4 [encV c])
  o4 : h.length < b4
  o6 : b4 < b6
  hx : ext h H
theorem Al.app {h H : Hp} {m : Mo} {c : Cvr} {b4 b6 : Nat} (E : Al h H m c b4 b6) (x : Hp) : Al h (H ++ x) m c b4 b6 := ⟨below_getL E.gm, below_getL E.g4, below_getL E.g6, E.o4, E.o6, E.hx.app _⟩
theorem Al.up {h H H' : Hp} {m : Mo} {c : Cvr} {b4 b6 : Nat} (E : Al h H m c b4 b6) (hx : ext H H') : Al h H' m c b4 b6 := by
  obtain ⟨x, rfl⟩ := hx; exact E.app x
/-- what is laid of an Empty's results -/
theorem lay2 {h H0 : Hp} {m : Mo} {b4 : Nat} (c : Cvr) (t : Tk) (gm : H0[h.length]? = some (ABlk.live 2 [encM m])) (g4 : H0[b4]? = some (ABlk.live 4 [rowZ])) (o4 : h.length < b4) (hx : ext h H0) :
    aStore Tryz.prog (H0 ++ [ABlk.live 4 [rowZ]] ++ [ABlk.live 1 [nilR]]) 28 (.ptr H0.length 0 0) (.agg (encV c)) = some ((H0 ++ [ABlk.live 4 [rowZ]] ++ [ABlk.live 1 [nilR]]).set H0.length (ABlk.live 4 [encV c])) ∧
    aStore Tryz.prog ((H0 ++ [ABlk.live 4 [rowZ]] ++ [ABlk.live 1 [nilR]]).set H0.length (ABlk.live 4 [encV c])) 47 (.ptr (H0 ++ [ABlk.live 4 [rowZ]]).length 0 0) (.agg (encT t)) = some (((H0 ++ [ABlk.live 4 [rowZ]] ++ [ABlk.live 1 [nilR]]).set H0.length (ABlk.live 4 [encV c])).set (H0 ++ [ABlk.live 4 [rowZ]]).length (ABlk.live 1 [encT t])) ∧
    Al h (((H0 ++ [ABlk.live 4 [rowZ]] ++ [ABlk.live 1 [nilR]]).set H0.length (ABlk.live 4 [encV c])).set (H0 ++ [ABlk.live 4 [rowZ]]).length (ABlk.live 1 [encT t])) m c b4 H0.length := by
  obtain ⟨s1, s2, g6, _, hx5⟩ := lay0 H0 c t
  exact ⟨s1, s2, ext_getL hx5 gm, ext_getL hx5 g4, g6, o4, lt_of_getElem? g4, hx.trans hx5⟩
set_option maxHeartbeats 2000000 in
theorem All_prog (G : Nat → AV) (hG : GOk G) (hT : TupleOk G) (m : Mo) (l : List Cvr) (s : SM) (hm : MoOk m) (hl : ∀ v ∈ l, CvOk v) (hn : l.length ≤ 1048576) (h : Hp) : PCall (En G) 34 [.agg (encM m), .sl s 4 (l.map encV)] h (.tup [.agg (encV (allR m l)), .int .i64 (allE m l)]) := by
  refine PCall.res ?_ (rawR_cv m l _)
  refine pureT 3 (rawR_frz m l _) ?_
  refine acalls_of (H := Hint.none) (enM G) Tryz.func34 rfl (by kernel_rfl) (by kernel_rfl) (Nat.le_of_ble_eq_true (by kernel_rfl)) ?_
  show awp _ _ _ _ _ (endQ _ [.cell 4 28, .tmp 5] _)
  have gm : (h ++ [ABlk.live 2 [encM m]] ++ [ABlk.live 4 [rowZ]])[h.length]? = some (ABlk.live 2 [encM m]) := below_get (top_get _ _)
  have g4 : (h ++ [ABlk.live 2 [encM m]] ++ [ABlk.live 4 [rowZ]])[(h ++ [ABlk.live 2 [encM m]]).length]? = some (ABlk.live 4 [rowZ]) := top_get _ _
  have o4 : h.length < (h ++ [ABlk.live 2 [encM m]]).length := by simp
  have hx : ext h (h ++ [ABlk.live 2 [encM m]] ++ [ABlk.live 4 [rowZ]]) := ((ext.rfl' h).app _).app _
  simp -implicitDefEqProofs only [awp_seq, awp_reg, seqQ_n, WW_one, WW_nil, none_md, none_fz, frz_nil, ownOp, wc_app, wcont_s, upd_app, ev_tmp, ev_const, av_int, x_assign, x_alloc, x_box, x_load, holdsO_some, frameOf_zero, ↓reduceIte, Nat.reduceEqDiff, Option.getD_some, Bool.not_false, enP, bxM, al28']
  generalize h ++ [ABlk.live 2 [encM m]] ++ [ABlk.live 4 [rowZ]] = H0 at gm g4 hx ⊢
  generalize (h ++ [ABlk.live 2 [encM m]]).length = b4 at g4 o4 ⊢
  obtain ⟨s1, s2, E⟩ := lay2 (emV m) (emT m) gm g4 o4 hx
  have l4 := lt_of_getElem? g4
  simp -implicitDefEqProofs only [WW_one, none_md, none_fz, frz_nil, ownOp, wc_app, wcont_s, upd_app, ev_tmp, ev_func, X1_call, callA_fn, holdsO_ofO, List.map_cons, List.map_nil, List.append_nil, ↓reduceIte, Option.getD_some, Bool.not_false, ldM gm]
  refine (Empty_prog G hG m hm _).use ?_
  simp -implicitDefEqProofs only [List.getElem?_cons_zero, List.getElem?_cons_succ, awp_seq, awp_reg, awp_cond, seqQ_n, WW_one, WW_nil, none_md, none_fz, frz_nil, ownOp, wc_app, wcont_s, wcont_n, upd_app, ev_tmp, ev_const, av_int, x_move, x_assign, x_alloc, x_store, x_bin, x_extract, ext_tup, holdsO_some, holdsO_ofO, holdsO_ofS, bin_neq, ↓reduceIte, Nat.reduceEqDiff, Option.getD_some, Bool.not_false, enP, Option.getD_none, al28', al47, s1, s2, bne]
  generalize ((H0 ++ [ABlk.live 4 [rowZ]] ++ [ABlk.live 1 [nilR]]).set H0.length (ABlk.live 4 [encV (emV m)])).set (H0 ++ [ABlk.live 4 [rowZ]]).length (ABlk.live 1 [encT (emT m)]) = H1 at E ⊢
  generalize H0.length = b6 at E l4 ⊢
  clear s1 s2 gm g4 hx
  cases h1 : (modelE m == 0)
  · have h1' : modelE m ≠ 0 := by simpa using h1
    have hne := allE_bad (l := l) h1'
    simp -implicitDefEqProofs only [evp_nil, awp_seq, awp_reg, awp_ret, seqQ_n, seqQ_r, cond_t, WW_one, WW_nil, none_md, none_fz, frz_nil, ownOp, wc_app, wcont_s, wcont_n, upd_app, ev_tmp, x_move, x_assign, x_build, x_store, holdsO_ofO, holdsO_ofS, ↓reduceIte, Nat.reduceEqDiff, Option.getD_some, Bool.not_false, enP, Option.getD_none, bd28z, stZ E.g4 rfl]
    rw [end_c1t (ba := b4) (by simp -implicitDefEqProofs only [upd_app, ↓reduceIte, Nat.reduceEqDiff]) (ldRow28 (get_set_eq E.g4) rfl)]
    exact ⟨by simp -implicitDefEqProofs only [upd_app, ↓reduceIte, hne]; rw [rawR_bad (by rw [hne]; exact h1')], E.hx.set (by omega) _⟩
  have h1' : modelE m = 0 := by simpa using h1
  have hem : emV m = emptyV m := by unfold emV; rw [if_pos h1']
  rw [hem] at E
  simp -implicitDefEqProofs only [awp_seq, awp_block, awp_reg, awp_skip, seqQ_n, cond_f, WW_one, WW_nil, none_md, none_fz, frz_nil, ownOp, wc_app, wcont_s, upd_app, ev_tmp, ev_const, av_int, x_move, x_len, holdsO_ofO, frameOf_zero, frameOf_succ, ↓reduceIte, Nat.reduceEqDiff, Option.getD_some, Bool.not_true, Bool.not_false, enP, ln37, List.length_map]
  refine awp_lp 0 (fun F H => F 1 = .sl s 4 (l.map encV) ∧ F 4 = .ptr b4 0 0 ∧ F 6 = .ptr b6 0 0 ∧ Al h H m (emptyV m) b4 b6 ∧ ∀ v ∈ l, fitsB m v = true) (fun F H => F 4 = .ptr b4 0 0 ∧ F 5 = .int .i64 1 ∧ H[b4]? = some (ABlk.live 4 [rowZ]) ∧ Sm.ext h H ∧ allE m l = 1) ?_ ?_ ?_
  · refine awp_loop (fun n F H => ∃ i, n + i = l.length ∧ F 1 = .sl s 4 (l.map encV) ∧ F 2 = .ptr h.length 0 0 ∧ F 4 = .ptr b4 0 0 ∧ F 6 = .ptr b6 0 0 ∧ F 21 = .sl s 4 (l.map encV) ∧ F 22 = .int .i64 l.length ∧ F 23 = .int .i64 (i : Nat) ∧ Al h H m (emptyV m) b4 b6 ∧ ∀ v ∈ l.take i, fitsB m v = true) l.length ⟨0, by simp, by simp -implicitDefEqProofs only [upd_app, frameOf_zero, frameOf_succ, ↓reduceIte, Nat.reduceEqDiff], by simp -implicitDefEqProofs only [upd_app, ↓reduceIte, Nat.reduceEqDiff], by simp -implicitDefEqProofs only [upd_app, ↓reduceIte, Nat.reduceEqDiff], by simp -implicitDefEqProofs only [upd_app, ↓reduceIte, Nat.reduceEqDiff], by simp -implicitDefEqProofs only [upd_app, ↓reduceIte, Nat.reduceEqDiff], by simp -implicitDefEqProofs only [upd_app, ↓reduceIte, Nat.reduceEqDiff], by simp -implicitDefEqProofs only [upd_app, ↓reduceIte]; rfl, E, by simp⟩ ?_
    clear E
    rintro n F H ⟨i, hi, f1, f2, f4, f6, f21, f22, f23, E, hf⟩
    simp -implicitDefEqProofs only [awp_seq, awp_reg, awp_cond, seqQ_n, WW_one, WW_nil, none_md, none_fz, frz_nil, ownOp, wc_app, wcont_s, upd_app, ev_tmp, x_bin, holdsO_ofO, bin_lss, ↓reduceIte, Option.getD_some, Bool.not_false, enP, f22, f23]
    refine cond_of (fun hc => ?_) (fun hc => ?_)
    · have hi' : i < l.length := by simpa using hc
      have E1 := E.app [ABlk.live 4 [encV l[i]]]
      have gT := ldV (top_get H (ABlk.live 4 [encV l[i]]))
      simp -implicitDefEqProofs only [awp_seq, awp_block, awp_reg, awp_skip, seqQ_n, WW_one, WW_nil, none_md, none_fz, frz_nil, ownOp, wc_app, wcont_s, wcont_n, upd_app, ev_tmp, ev_func, x_alloc, x_load, x_store, x_indexAddr, X1_call, callA_fn, holdsO_some, holdsO_ofO, holdsO_ofS, List.map_cons, List.map_nil, List.append_nil, ↓reduceIte, Nat.reduceEqDiff, Option.getD_some, Bool.not_false, enP, ix37, Option.getD_none, f2, f21, f23, ix_map hi', load_mapA ag28 sz28 encV_len hi', al28', stVtop, ldM E1.gm, gT]
      refine (fits_prog G hG hT m l[i] hm (hl _ (List.getElem_mem hi')) _).use ?_
      simp -implicitDefEqProofs only [awp_cond, seqQ_n, WW_one, WW_nil, none_md, none_fz, frz_nil, ownOp, wc_app, wcont_s, upd_app, ev_tmp, x_un, holdsO_ofO, un_not, ↓reduceIte, Option.getD_some, Bool.not_false]
      cases hv : fitsB m l[i]
      · simp -implicitDefEqProofs only [evp_nil, awp_seq, awp_reg, awp_ret, seqQ_n, seqQ_r, blk_r, lp_r, rnd_r, cond_t, WW_one, WW_nil, none_md, none_fz, frz_nil, ownOp, wc_app, wcont_s, wcont_n, upd_app, ev_tmp, ev_const, av_int, x_assign, x_build, x_store, holdsO_ofO, holdsO_ofS, ↓reduceIte, Nat.reduceEqDiff, Option.getD_some, Bool.not_false, enP, Option.getD_none, bd28z, f4, stZ E1.g4 rfl]
        exact ⟨trivial, trivial, get_set_eq E1.g4, E1.hx.set (by have := E1.o4; omega) _, allE_one h1' (List.getElem_mem hi') hv⟩
      · simp -implicitDefEqProofs only [awp_reg, awp_skip, seqQ_n, blk_n, rnd_n, cond_f, WW_one, WW_nil, none_md, none_fz, frz_nil, ownOp, wc_app, wcont_s, upd_app, ev_tmp, ev_const, av_int, x_move, x_bin, holdsO_ofO, bin_add, ↓reduceIte, Nat.reduceEqDiff, Option.getD_some, Bool.not_true, Bool.not_false, enP, f23, wrap_succ (show i < 9223372036854775807 by omega)]
        refine ⟨n - 1, by omega, i + 1, by omega, f1, f2, f4, f6, f21, f22, rfl, E1, fun v hv' => ?_⟩
        rw [List.take_succ_eq_append_getElem hi'] at hv'
        rcases List.mem_append.1 hv' with hv' | hv'
        · exact hf v hv'
        · simp at hv'; rw [hv']; exact hv
    · have hi' : ¬ i < l.length := by simpa using hc
      rw [List.take_of_length_le (by omega)] at hf
      simp -implicitDefEqProofs only [awp_exit, seqQ_e, lp_e, rnd_e, upd_app, ↓reduceIte, Nat.reduceEqDiff]
      exact ⟨f1, f4, f6, E, hf⟩
  · rintro F H ⟨f1, f4, f6, E, hf⟩
    have hz : allE m l = 0 := allE_zero.2 ⟨h1', hf⟩
    have o6 := E.o6
    simp -implicitDefEqProofs only [awp_seq, awp_reg, seqQ_n, blk_e, WW_one, none_md, none_fz, frz_nil, ownOp, wc_app, wcont_s, upd_app, ev_tmp, ev_func, x_move, x_load, X1_call, callA_fn, holdsO_ofO, List.map_cons, List.map_nil, List.append_nil, ↓reduceIte, Nat.reduceEqDiff, Option.getD_some, Bool.not_false, enP, f1, f4, f6, ldV E.g6]
    refine (merge_prog G m (emptyV m) l s _ (fitsB_empty h1') hf hn).use ?_
    simp -implicitDefEqProofs only [awp_ret, seqQ_n, WW_one, WW_nil, none_md, none_fz, frz_nil, ownOp, wc_app, wcont_s, wcont_n, upd_app, ev_tmp, ev_const, av_int, x_assign, x_store, holdsO_ofS, ↓reduceIte, Nat.reduceEqDiff, Option.getD_some, Bool.not_false, enP, Option.getD_none, f4, stV E.g4 rfl]
    rw [end_c1t (ba := b4) (by simp -implicitDefEqProofs only [upd_app, ↓reduceIte, Nat.reduceEqDiff, f4]) (ldV (get_set_eq E.g4))]
    exact ⟨by simp -implicitDefEqProofs only [upd_app, ↓reduceIte]; unfold rawR allV; rw [hz]; rfl, E.hx.set (by omega) _⟩
  · rintro F H ⟨f4, f5, g4, hx, he⟩
    simp -implicitDefEqProofs only [seqQ_r, blk_r]
    rw [end_c1t (ba := b4) f4 (ldRow28 g4 rfl)]
    exact ⟨by rw [f5, he, rawR_bad (by rw [he]; decide)], hx⟩
set_option maxHeartbeats 1000000 in
theorem Merge_prog (G : Nat → AV) (hG : GOk G) (hT : TupleOk G) (m : Mo) (a b : Cvr) (hm : MoOk m) (ha : CvOk a) (hb : CvOk b) (h : Hp) : PCall (En G) 37 [.agg (encM m), .agg (encV a), .agg (encV b)] h (.tup [.agg (encV (allR m [a, b])), .int .i64 (allE m [a, b])]) := by
  refine pureT 3 (fun n H => rfl) ?_
  refine acalls_of (H := Hint.none) (enM G) Tryz.func37 rfl (by kernel_rfl) (by kernel_rfl) (Nat.le_of_ble_eq_true (by kernel_rfl)) ?_
  show awp _ _ _ _ _ (endQ _ [.cell 6 28, .tmp 7] _)
  have t := Mr.mk' h m a b
  simp -implicitDefEqProofs only [awp_seq, awp_reg, seqQ_n, WW_one, WW_nil, none_md, none_fz, frz_nil, ownOp, wc_app, wcont_s, upd_app, ev_tmp, ev_const, av_int, x_assign, x_alloc, x_box, x_load, holdsO_some, frameOf_zero, frameOf_succ, ↓reduceIte, Nat.reduceEqDiff, Option.getD_some, Bool.not_false, enP, bxM, bxV, al28']
  generalize h ++ [ABlk.live 2 [encM m]] ++ [ABlk.live 4 [encV a]] ++ [ABlk.live 4 [encV b]] ++ [ABlk.live 4 [rowZ]] = H at t ⊢
  generalize (h ++ [ABlk.live 2 [encM m]] ++ [ABlk.live 4 [encV a]] ++ [ABlk.live 4 [encV b]]).length = b6 at t ⊢
  generalize (h ++ [ABlk.live 2 [encM m]] ++ [ABlk.live 4 [encV a]]).length = b5 at t ⊢
  generalize (h ++ [ABlk.live 2 [encM m]]).length = b4 at t ⊢
  have o4 := t.o4; have o5 := t.o5; have o6 := t.o6
  simp -implicitDefEqProofs only [evp_nil, evp_cons, WW_one, none_md, none_fz, frz_nil, ownOp, wc_app, wcont_s, upd_app, ev_tmp, ev_func, x_buildSlice, x_load, X1_call, callA_fn, holdsO_some, holdsO_ofO, List.map_cons, List.map_nil, List.append_nil, ↓reduceIte, Nat.reduceEqDiff, Option.getD_some, Bool.not_false, enP, ldM t.gm, ldV t.ga, ldV t.gb, bs37]
  refine (All_prog G hG hT m [a, b] .full hm (fun v hv => by simp at hv; rcases hv with rfl | rfl <;> assumption) (by simp) _).use ?_
  simp -implicitDefEqProofs only [List.getElem?_cons_zero, List.getElem?_cons_succ, awp_ret, seqQ_n, WW_one, WW_nil, none_md, none_fz, frz_nil, ownOp, wc_app, wcont_s, wcont_n, upd_app, ev_tmp, x_assign, x_store, x_extract, ext_tup, holdsO_ofO, holdsO_ofS, ↓reduceIte, Nat.reduceEqDiff, Option.getD_some, Bool.not_false, enP, Option.getD_none, stV t.g6 rfl]
  rw [end_c1t (ba := b6) (by simp -implicitDefEqProofs only [upd_app, ↓reduceIte, Nat.reduceEqDiff]) (ldV (get_set_eq t.g6))]
  exact ⟨by simp -implicitDefEqProofs only [upd_app, ↓reduceIte], t.hx.set (by omega) _⟩
end Go.Proofs.YtocilianjfhifaaGreatDoor.Cov
/- The law MergeGains; no condition but the variables that are laid, the bounds on lengths, and cover.tuple's contract. -/
set_option linter.unusedSimpArgs false
set_option maxRecDepth 8000
namespace Go.Proofs.YtocilianjfhifaaGreatDoor.Cov
open Go Go.Proofs Go.Proofs.YtocilianjfhifaaGreatDoor.Sm Go.Proofs.YtocilianjfhifaaGreatDoor.Bins Go.RowKit

set_option maxHeartbeats 4000000 in
theorem law_gains (G : Nat → AV) (hG : GOk G) (hT : TupleOk G) (m : Mo) (a b : Cvr) (hm : MoOk m) (ha : CvOk a) (hb : CvOk b) (h : Hp) : PCall (En G) 6 [.agg (encM m), .agg (encV a), .agg (encV b)] h (.bool true) := by
  refine ACalls.pure0 rfl ?_
  refine acalls_of (H := Hint.none) (enM G) Tryz.func6 rfl (by kernel_rfl) (by kernel_rfl) (Nat.le_of_ble_eq_true (by kernel_rfl)) ?_
  show awp _ _ _ _ _ (endQ _ [.tmp 6] _)
  have t := Three.mk' h m a b
  simp -implicitDefEqProofs only [awp_seq, awp_reg, seqQ_n, WW_one, WW_nil, none_md, none_fz, frz_nil, ownOp, wc_app, wcont_s, upd_app, ev_tmp, ev_const, av_bool, x_assign, x_box, x_load, holdsO_some, frameOf_zero, frameOf_succ, ↓reduceIte, Nat.reduceEqDiff, Option.getD_some, Bool.not_false, enP, bxM, bxV]
  generalize h ++ [ABlk.live 2 [encM m]] ++ [ABlk.live 4 [encV a]] ++ [ABlk.live 4 [encV b]] = H at t ⊢
  generalize (h ++ [ABlk.live 2 [encM m]] ++ [ABlk.live 4 [encV a]]).length = bb at t ⊢
  generalize (h ++ [ABlk.live 2 [encM m]]).length = ab at t ⊢
  have z0 : ((0 : Int) == 0) = true := rfl
  have bad : ¬ (fitsB m a = true ∧ fitsB m b = true) → ((gainN m a b : Nat) : Int) = 0 := fun hh => by rw [gain_none hh]; rfl
  simp -implicitDefEqProofs only [WW_one, none_md, none_fz, frz_nil, ownOp, wc_app, wcont_s, upd_app, ev_tmp, ev_func, x_load, X1_call, callA_fn, holdsO_ofO, List.map_cons, List.map_nil, List.append_nil, ↓reduceIte, Nat.reduceEqDiff, Option.getD_some, Bool.not_false, enP, ldM t.gm, ldV t.ga]
  refine (fits_ref G m a hm ha _).use ?_
  simp -implicitDefEqProofs only [WW_one, WW_guardE, GX_some, gdstO, none_md, none_fz, frz_nil, ownOp, wc_app, wcont_s, upd_app, ev_tmp, x_move, x_un, holdsO_ofO, un_not, ↓reduceIte, Option.getD_some, Bool.not_false]
  cases h2 : fitsB m a
  · simp -implicitDefEqProofs only [awp_seq, awp_reg, awp_cond, seqQ_n, cond_t, WW_one, WW_nil, WW_guardE, GX_some, gdstO, G1_ft, none_md, none_fz, frz_nil, ownOp, wc_app, wcont_s, upd_app, aput, ev_tmp, ev_const, ev_func, av_bool, x_pick, pick_t, x_load, X1_call, callA_fn, holdsO_ofO, List.map_cons, List.map_nil, List.append_nil, ↓reduceIte, Nat.reduceEqDiff, Option.getD_some, Bool.not_false, enP, ldM t.gm, ldV t.ga, ldV t.gb]
    refine (gain_prog G hG hT m a b hm ha hb _).use ?_
    simp -implicitDefEqProofs only [WW_one, WW_guardE, GX_some, gdstO, G1_tt, none_md, none_fz, frz_nil, ownOp, wc_app, wcont_s, upd_app, ev_tmp, ev_const, ev_func, av_int, x_move, x_bin, X1_call, callA_fn, holdsO_ofO, bin_eql, List.map_nil, List.append_nil, ↓reduceIte, Option.getD_some, Bool.not_false, enP, bad (by rw [h2]; simp), z0]
    refine (awake G hG hT _).use ?_
    simp -implicitDefEqProofs only [awp_ret, seqQ_n, seqQ_r, end_r, WW_one, WW_nil, none_md, none_fz, frz_nil, ownOp, wc_app, wcont_s, upd_app, ev_tmp, ev_const, av_bool, x_assign, x_pick, pick_t, ↓reduceIte, Nat.reduceEqDiff, Option.getD_some, Bool.not_false]
    exact ⟨trivial, t.hx⟩
  simp -implicitDefEqProofs only [WW_guardE, GX_some, gdstO, G1_ff, none_md, none_fz, frz_nil, ownOp, wc_app, wcont_s, upd_app, ev_tmp, ev_func, x_load, X1_call, callA_fn, holdsO_ofO, List.map_cons, List.map_nil, List.append_nil, ↓reduceIte, Nat.reduceEqDiff, Option.getD_some, Bool.not_true, Bool.not_false, enP, ldM t.gm, ldV t.gb]
  refine (fits_ref G m b hm hb _).use ?_
  simp -implicitDefEqProofs only [awp_cond, seqQ_n, WW_one, WW_nil, WW_guardE, GX_some, gdstO, G1_ff, none_md, none_fz, frz_nil, ownOp, wc_app, wcont_s, upd_app, ev_tmp, ev_const, av_bool, x_pick, pick_f, x_un, holdsO_ofO, un_not, ↓reduceIte, Nat.reduceEqDiff, Option.getD_some, Bool.not_false]
  cases h3 : fitsB m b
  · simp -implicitDefEqProofs only [awp_seq, awp_reg, cond_t, WW_one, none_md, none_fz, frz_nil, ownOp, wc_app, wcont_s, upd_app, ev_tmp, ev_func, x_load, X1_call, callA_fn, holdsO_ofO, List.map_cons, List.map_nil, List.append_nil, ↓reduceIte, Nat.reduceEqDiff, Option.getD_some, Bool.not_false, enP, ldM t.gm, ldV t.ga, ldV t.gb]
    refine (gain_prog G hG hT m a b hm ha hb _).use ?_
    simp -implicitDefEqProofs only [WW_one, WW_guardE, GX_some, gdstO, G1_tt, none_md, none_fz, frz_nil, ownOp, wc_app, wcont_s, upd_app, ev_tmp, ev_const, ev_func, av_int, x_move, x_bin, X1_call, callA_fn, holdsO_ofO, bin_eql, List.map_nil, List.append_nil, ↓reduceIte, Option.getD_some, Bool.not_false, enP, bad (by rw [h3]; simp), z0]
    refine (awake G hG hT _).use ?_
    simp -implicitDefEqProofs only [awp_ret, seqQ_n, seqQ_r, end_r, WW_one, WW_nil, none_md, none_fz, frz_nil, ownOp, wc_app, wcont_s, upd_app, ev_tmp, ev_const, av_bool, x_assign, x_pick, pick_t, ↓reduceIte, Nat.reduceEqDiff, Option.getD_some, Bool.not_false]
    exact ⟨trivial, t.hx⟩
  have hz := allE_two h2 h3
  have hd := dat_two hz
  have hfc := allR_fits hz
  simp -implicitDefEqProofs only [awp_seq, awp_reg, awp_skip, seqQ_n, cond_f, WW_one, none_md, none_fz, frz_nil, ownOp, wc_app, wcont_s, upd_app, ev_tmp, ev_func, x_load, X1_call, callA_fn, holdsO_ofO, List.map_cons, List.map_nil, List.append_nil, ↓reduceIte, Nat.reduceEqDiff, Option.getD_some, Bool.not_true, Bool.not_false, enP, ldM t.gm, ldV t.ga, ldV t.gb]
  refine (Merge_prog G hG hT m a b hm ha hb _).use ?_
  generalize allR m [a, b] = c at hd hfc ⊢
  have gm := below_get (x := .live 4 [encV c]) t.gm
  have ga := below_get (x := .live 4 [encV c]) t.ga
  have gb := below_get (x := .live 4 [encV c]) t.gb
  have gc := top_get H (ABlk.live 4 [encV c])
  have hx : ∃ x, H ++ [ABlk.live 4 [encV c]] = h ++ x := by
    obtain ⟨x, hx⟩ := t.hx
    exact ⟨x ++ _, by rw [hx, List.append_assoc]⟩
  simp -implicitDefEqProofs only [List.getElem?_cons_zero, List.getElem?_cons_succ, awp_seq, seqQ_n, WW_one, WW_nil, none_md, none_fz, frz_nil, ownOp, wc_app, wcont_s, wcont_n, upd_app, ev_tmp, x_move, x_assign, x_alloc, x_store, x_extract, ext_tup, holdsO_some, holdsO_ofO, holdsO_ofS, ↓reduceIte, Nat.reduceEqDiff, Option.getD_some, Bool.not_false, enP, Option.getD_none, hz, al28', stVtop]
  generalize H ++ [ABlk.live 4 [encV c]] = H1 at gm ga gb gc hx ⊢
  generalize H.length = cb at gc ⊢
  clear t
  have hc := cvOk_fits hfc
  have hgn := goalN_le (m := m)
  have q1 := reach_holes h2
  have q2 := reach_gain h2 h3 hd
  have q3 := reach_both h2 h3 hd
  have q4 : (((gainN m a a : Nat) : Int) == 0) = true := by rw [gain_self]; rfl
  have q5 := perc_all h2
  have q6 := perc_mono h2 h3 hd
  have q7 := reachN_le hfc
  have w1 : IntKind.i64.wrap ((reachN m a : Int) + ((holesL m a).length : Int)) = ((goalN m : Nat) : Int) := by rw [wrap_i64 (by omega) (by omega)]; omega
  have w2 : IntKind.i64.wrap ((reachN m a : Int) + ((gainN m a b : Nat) : Int)) = ((reachN m c : Nat) : Int) := by rw [wrap_i64 (by omega) (by omega)]; omega
  have e1 : (((goalN m : Nat) : Int) == ((goalN m : Nat) : Int)) = true := by simp
  have e2 : (((reachN m c : Nat) : Int) == ((reachN m c : Nat) : Int)) = true := by simp
  have e3 : decide (((reachN m c : Nat) : Int) ≥ ((reachN m b : Nat) : Int)) = true := by simp; omega
  have e4 : decide (((percN m a : Nat) : Int) ≤ ((percN m c : Nat) : Int)) = true := by simp; omega
  have e5 : ((((holesL m a).length : Int) == 0) == (((holesL m a).length : Int) == 0)) = true := by simp
  refine awp_draw (by kernel_rfl) ?_
  simp -implicitDefEqProofs only [YO_f, dc_app, dcont_s, DD_nil, DD_one, y_assign, y_load, Y1_call, callP_fn, awp_seq, awp_reg, seqQ_n, WW_one, none_md, none_fz, frz_nil, ownOp, wc_app, wcont_s, upd_app, ev_tmp, ev_func, x_load, holdsO_ofO, List.map_cons, List.map_nil, List.append_nil, ↓reduceIte, Nat.reduceEqDiff, Nat.reduceAdd, Option.getD_some, Bool.not_false, enP, ldM gm, ldV ga]
  refine ⟨_, goal_prog G hG m hm _, ?_⟩
  try simp -implicitDefEqProofs only [ldM gm, ldV ga]
  refine ⟨_, reach_prog G hG hT m a hm ha _, ?_⟩
  try simp -implicitDefEqProofs only [WW_one, none_md, none_fz, frz_nil, ownOp, wc_app, wcont_s, upd_app, ev_tmp, ev_func, X1_call, callA_fn, holdsO_ofO, List.map_cons, List.map_nil, List.append_nil, ↓reduceIte, Nat.reduceEqDiff, Option.getD_some, Bool.not_false, ldM gm, ldV gc]
  refine (reach_prog G hG hT m c hm hc _).use ?_
  simp -implicitDefEqProofs only [awp_seq, seqQ_n, WW_one, WW_nil, none_md, none_fz, frz_nil, ownOp, wc_app, wcont_s, upd_app, ev_tmp, x_assign, ↓reduceIte, Option.getD_some, Bool.not_false]
  refine awp_draw (by kernel_rfl) ?_
  simp -implicitDefEqProofs only [YO_f, dc_app, dcont_s, DD_one, DD_guardE, GY_some, GD_tt, y_move, y_load, y_bin, y_builtin, Y1_call, callP_fn, gdstO, none_md, upd_app, ev_tmp, ev_const, ev_func, av_int, x_load, x_bin, x_len, holdsO_ofO, bin_eql, List.map_cons, List.map_nil, List.append_nil, ↓reduceIte, Nat.reduceEqDiff, Nat.reduceAdd, Option.getD_some, enP, z0, ldM gm, ldV ga]
  refine ⟨_, holes_prog G hG hT m a hm ha _, ?_⟩
  try simp -implicitDefEqProofs only [YO_f, dc_app, dcont_s, DD_one, DD_guardE, GY_some, GD_tt, y_move, y_pick, y_load, y_bin, Y1_call, callP_fn, gdstO, none_md, upd_app, ev_tmp, ev_const, ev_func, av_bool, x_pick, pick_t, x_load, x_bin, holdsO_ofO, bin_add, bin_eql, List.map_cons, List.map_nil, List.append_nil, ↓reduceIte, Nat.reduceEqDiff, Nat.reduceAdd, Option.getD_some, enP, ln32, List.length_map, w1, e1, ldM gm, ldV ga, ldV gb]
  refine ⟨_, gain_prog G hG hT m a b hm ha hb _, ?_⟩
  try simp -implicitDefEqProofs only [YO_f, dc_app, dcont_s, DD_one, DD_guardE, GY_some, GD_tt, y_move, y_pick, y_load, y_bin, Y1_call, callP_fn, gdstO, none_md, upd_app, ev_tmp, ev_const, ev_func, av_bool, x_pick, pick_t, x_load, x_bin, holdsO_ofO, bin_add, bin_eql, List.map_cons, List.map_nil, List.append_nil, ↓reduceIte, Nat.reduceEqDiff, Nat.reduceAdd, Option.getD_some, enP, w2, e2, ldM gm, ldV gb]
  refine ⟨_, reach_prog G hG hT m b hm hb _, ?_⟩
  try simp -implicitDefEqProofs only [YO_f, dc_app, dcont_s, DD_one, DD_guardE, GY_some, GD_tt, y_move, y_pick, y_load, y_bin, Y1_call, callP_fn, gdstO, none_md, upd_app, ev_tmp, ev_const, ev_func, av_int, av_bool, x_pick, pick_t, x_load, x_bin, holdsO_ofO, bin_geq, List.map_cons, List.map_nil, List.append_nil, ↓reduceIte, Nat.reduceEqDiff, Nat.reduceAdd, Option.getD_some, enP, e3, ldM gm, ldV ga]
  refine ⟨_, gain_prog G hG hT m a a hm ha ha _, ?_⟩
  try simp -implicitDefEqProofs only [YO_f, dc_app, dcont_s, DD_one, DD_guardE, GY_some, GD_tt, y_move, y_pick, y_load, y_bin, Y1_call, callP_fn, gdstO, none_md, upd_app, ev_tmp, ev_const, ev_func, av_int, av_bool, x_pick, pick_t, x_load, x_bin, holdsO_ofO, bin_eql, List.map_cons, List.map_nil, List.append_nil, ↓reduceIte, Nat.reduceEqDiff, Nat.reduceAdd, Option.getD_some, enP, q4, ldM gm, ldV ga]
  refine ⟨_, perc_prog G hG hT m a hm ha _, ?_⟩
  try simp -implicitDefEqProofs only [YO_f, dc_app, dcont_s, DD_guardE, GY_some, GD_tt, y_load, y_builtin, Y1_call, callP_fn, gdstO, none_md, upd_app, ev_tmp, ev_func, x_load, x_len, holdsO_ofO, bin_eql, List.map_cons, List.map_nil, List.append_nil, ↓reduceIte, Nat.reduceEqDiff, Nat.reduceAdd, Option.getD_some, enP, ldM gm, ldV ga]
  refine ⟨_, holes_prog G hG hT m a hm ha _, ?_⟩
  try simp -implicitDefEqProofs only [YO_f, dc_app, dcont_s, DD_one, DD_guardE, GY_some, GD_tt, y_move, y_pick, y_load, y_bin, Y1_call, callP_fn, gdstO, none_md, upd_app, ev_tmp, ev_const, ev_func, av_int, av_bool, x_pick, pick_t, x_load, x_bin, holdsO_ofO, bin_eql, List.map_cons, List.map_nil, List.append_nil, ↓reduceIte, Nat.reduceEqDiff, Nat.reduceAdd, Option.getD_some, enP, be4, ln32, List.length_map, q5, e5, ldM gm, ldV ga]
  refine ⟨_, perc_prog G hG hT m a hm ha _, ?_⟩
  try simp -implicitDefEqProofs only [YO_f, dc_app, dcont_s, DD_guardE, GY_some, GD_tt, y_bin, Y1_call, callP_fn, gdstO, none_md, upd_app, ev_tmp, ev_func, x_bin, holdsO_ofO, List.map_cons, List.map_nil, List.append_nil, ↓reduceIte, Nat.reduceEqDiff, Nat.reduceAdd, Option.getD_some, enP, ldM gm, ldV gc]
  refine ⟨_, perc_prog G hG hT m c hm hc _, ?_⟩
  try simp -implicitDefEqProofs only [YO_f, dc_app, dcont_s, DD_nil, DD_one, DD_guardE, GY_some, GD_tt, y_move, y_assign, y_pick, Y1_call, callP_fn, awp_ret, seqQ_n, end_r, gdstO, none_md, upd_app, ev_tmp, ev_const, ev_func, av_bool, x_pick, pick_t, holdsO_ofO, bin_leq, List.map_nil, List.append_nil, ↓reduceIte, Nat.reduceEqDiff, Nat.reduceAdd, Option.getD_some, e4]
  refine ⟨_, awake G hG hT _, ?_⟩
  try simp -implicitDefEqProofs only []
  exact ⟨trivial, hx⟩
end Go.Proofs.YtocilianjfhifaaGreatDoor.Cov
/- The law MergeAlgebra; no condition but the variables that are laid, the bounds on lengths, and cover.tuple's contract. -/
set_option linter.unusedSimpArgs false
set_option maxRecDepth 8000
namespace Go.Proofs.YtocilianjfhifaaGreatDoor.Cov
open Go Go.Proofs Go.Proofs.YtocilianjfhifaaGreatDoor.Sm Go.Proofs.YtocilianjfhifaaGreatDoor.Bins Go.RowKit

/-- three coverages -/
def encA (a b c : Cvr) : List AV := encV a ++ (encV b ++ encV c)
/-- a model and three coverages -/
structure Lg (h H : Hp) (m : Mo) (a b c : Cvr) (k : Nat) : Prop where
  gm : H[h.length]? = some (ABlk.live 2 [encM m])
  gA : H[k]? = some (ABlk.live 12 [encA a b c])
  hx : ∃ x, H = h ++ x
section
variable {h H : Hp} {m : Mo} {a b c : Cvr} {k : Nat} (L : Lg h H m a b c k)
include L
end
end Go.Proofs.YtocilianjfhifaaGreatDoor.Cov
