/- Part 10 of the proof (A1, Q1, Q2, Q3, A2, Q4, Q5, Q6, Q7); no condition. -/
import Derived.Test.YtocilianjfhifaaGreatDoorU9
set_option linter.unusedVariables false
/- Adding coverages that fit a model: what it is, and what it keeps; no condition. -/
namespace Go.Proofs.YtocilianjfhifaaGreatDoor.Cov
open Go Go.Proofs Go.Proofs.YtocilianjfhifaaGreatDoor.Sm Go.Proofs.YtocilianjfhifaaGreatDoor.Bins Go.RowKit

/-- the sum of two counts -/
def addZ (a b : Int) : Int := min (a + b) 1099511627776
theorem withinB_iff {n : Int} : withinB n = true ↔ 0 ≤ n ∧ n ≤ 1099511627776 := by unfold withinB; simp
theorem addZ_within {a b : Int} (ha : withinB a = true) (hb : withinB b = true) : withinB (addZ a b) = true := by
  rw [withinB_iff] at *; unfold addZ; omega
theorem addZ_comm (a b : Int) : addZ a b = addZ b a := by unfold addZ; rw [Int.add_comm]
theorem addZ_assoc {a b c : Int} (ha : withinB a = true) (hb : withinB b = true) (hc : withinB c = true) : addZ (addZ a b) c = addZ a (addZ b c) := by
  rw [withinB_iff] at *; unfold addZ; omega
theorem addZ_zero {a : Int} (ha : withinB a = true) : addZ 0 a = a := by
  rw [withinB_iff] at *; unfold addZ; omega
theorem countB_within {n : Int} {p : Bool} (h : countB n p = true) : withinB n = true := by unfold countB at h; simp only [Bool.and_eq_true] at h; exact h.1
theorem countB_add {a b : Int} {p : Bool} (ha : countB a p = true) (hb : countB b p = true) : countB (addZ a b) p = true := by
  unfold countB at *
  simp only [Bool.and_eq_true] at *
  refine ⟨addZ_within ha.1 hb.1, ?_⟩
  cases p
  · have h1 := ha.2; have h2 := hb.2
    simp only [Bool.false_or, beq_iff_eq] at h1 h2
    subst h1; subst h2; rfl
  · rfl
/-- the sums of two lists -/
def addL (x y : List Int) : List Int := List.zipWith addZ x y
def addIs (x y : Is) : Is := ⟨nm (addL x.l y.l), addL x.l y.l⟩
def addLs (a b : List Is) : List Is := List.zipWith addIs a b
def addV (a b : Cvr) : Cvr := ⟨nm (addLs a.pts b.pts), addLs a.pts b.pts, nm (addLs a.crs b.crs), addLs a.crs b.crs, addZ a.sam b.sam, addZ a.ill b.ill⟩
/-- numbers that are counts -/
def WL (x : List Int) : Prop := ∀ n ∈ x, withinB n = true
theorem rowF_within : ∀ {x : List Int} {p : Nat → Bool} {k : Nat}, rowF p k x = true → WL x
  | [], _, _, _ => fun _ h => by cases h
  | n :: x, p, k, h => by
    simp only [rowF, Bool.and_eq_true] at h
    intro m hm
    rcases List.mem_cons.1 hm with rfl | hm
    · exact countB_within h.1
    · exact rowF_within h.2 m hm
theorem rowF_add : ∀ {x y : List Int} {p : Nat → Bool} {k : Nat}, rowF p k x = true → rowF p k y = true → rowF p k (addL x y) = true
  | [], _, _, _, _, _ => by simp [addL, rowF]
  | _ :: _, [], _, _, _, _ => by simp [addL, rowF]
  | a :: x, b :: y, p, k, ha, hb => by
    simp only [rowF, Bool.and_eq_true] at ha hb
    have ih := rowF_add ha.2 hb.2
    simp only [addL, List.zipWith_cons_cons, rowF, Bool.and_eq_true]
    exact ⟨countB_add ha.1 hb.1, ih⟩
theorem okP_add {p : Pt} {x y : Is} (hx : okP p x = true) (hy : okP p y = true) : okP p (addIs x y) = true := by
  unfold okP at *
  simp only [Bool.and_eq_true, beq_iff_eq] at *
  refine ⟨?_, rowF_add hx.2 hy.2⟩
  show (addL x.l y.l).length = _
  unfold addL; rw [List.length_zipWith]; omega
theorem okC_add {m : Mo} {c : Cr} {x y : Is} (hx : okC m c x = true) (hy : okC m c y = true) : okC m c (addIs x y) = true := by
  unfold okC at *
  simp only [Bool.and_eq_true, beq_iff_eq] at *
  refine ⟨?_, rowF_add hx.2 hy.2⟩
  show (addL x.l y.l).length = _
  unfold addL; rw [List.length_zipWith]; omega
theorem fit2_add {α : Type} {ok : α → Is → Bool} (hok : ∀ a x y, ok a x = true → ok a y = true → ok a (addIs x y) = true) : ∀ {ws : List α} {xs ys : List Is}, fit2 ok ws xs = true → fit2 ok ws ys = true → fit2 ok ws (addLs xs ys) = true
  | [], [], [], _, _ => rfl
  | a :: ws, x :: xs, y :: ys, hx, hy => by
    simp only [fit2, Bool.and_eq_true] at hx hy
    simp only [addLs, List.zipWith_cons_cons, fit2, Bool.and_eq_true]
    exact ⟨hok _ _ _ hx.1 hy.1, fit2_add hok hx.2 hy.2⟩
  | [], _ :: _, _, h, _ => by cases h
  | [], [], _ :: _, _, h => by cases h
  | _ :: _, [], _, h, _ => by cases h
  | _ :: _, _ :: _, [], _, h => by cases h
/-- what it is to fit -/
theorem fitsB_iff {m : Mo} {v : Cvr} : fitsB m v = true ↔ modelE m = 0 ∧ fit2 okP m.pts v.pts = true ∧ fit2 (okC m) m.crs v.crs = true ∧ withinB v.sam = true ∧ withinB v.ill = true := by
  unfold fitsB
  simp only [Bool.and_eq_true, beq_iff_eq]
  exact ⟨fun ⟨⟨⟨⟨a, b⟩, c⟩, d⟩, e⟩ => ⟨a, b, c, d, e⟩, fun ⟨a, b, c, d, e⟩ => ⟨⟨⟨⟨a, b⟩, c⟩, d⟩, e⟩⟩
theorem fitsB_add {m : Mo} {a b : Cvr} (ha : fitsB m a = true) (hb : fitsB m b = true) : fitsB m (addV a b) = true := by
  rw [fitsB_iff] at *
  obtain ⟨h1, h2, h3, h4, h5⟩ := ha
  obtain ⟨_, k2, k3, k4, k5⟩ := hb
  exact ⟨h1, fit2_add (fun _ _ _ => okP_add) h2 k2, fit2_add (fun _ _ _ => okC_add) h3 k3, addZ_within h4 k4, addZ_within h5 k5⟩
/-- the coverage without samples -/
def zeros (n : Nat) : List Int := List.replicate n 0
def zIs (n : Nat) : Is := ⟨.full, zeros n⟩
def zPs (m : Mo) : List Is := m.pts.map fun p => zIs p.bins.length
def zCs (m : Mo) : List Is := m.crs.map fun c => zIs (prodN (szs m c.pts))
def emptyV (m : Mo) : Cvr := ⟨nm (zPs m), zPs m, nm (zCs m), zCs m, 0, 0⟩
theorem rowF_zero : ∀ (n : Nat) {p : Nat → Bool} {k : Nat}, rowF p k (zeros n) = true
  | 0, _, _ => rfl
  | n + 1, p, k => by
    have ih := rowF_zero n (p := p) (k := k + 1)
    unfold zeros at *
    simp only [List.replicate_succ, rowF, ih, Bool.and_true]
    unfold countB; cases p k <;> rfl
theorem fit2_map {α : Type} {ok : α → Is → Bool} (f : α → Is) (hf : ∀ a, ok a (f a) = true) : ∀ ws : List α, fit2 ok ws (ws.map f) = true
  | [] => rfl
  | a :: ws => by simp only [List.map_cons, fit2, hf, fit2_map f hf ws, Bool.and_true]
theorem fitsB_empty {m : Mo} (h : modelE m = 0) : fitsB m (emptyV m) = true := by
  rw [fitsB_iff]
  refine ⟨h, fit2_map _ (fun p => ?_) _, fit2_map _ (fun c => ?_) _, rfl, rfl⟩
  · unfold okP; simp [zIs, rowF_zero]; simp [zeros]
  · unfold okC; simp [zIs, rowF_zero]; simp [zeros]
/-- what a coverage says, however it lies -/
structure Dat where
  pts : List (List Int)
  crs : List (List Int)
  sam : Int
  ill : Int
def datV (v : Cvr) : Dat := ⟨v.pts.map (·.l), v.crs.map (·.l), v.sam, v.ill⟩
def addLL (a b : List (List Int)) : List (List Int) := List.zipWith addL a b
def addD (a b : Dat) : Dat := ⟨addLL a.pts b.pts, addLL a.crs b.crs, addZ a.sam b.sam, addZ a.ill b.ill⟩
theorem addLs_l : ∀ a b : List Is, (addLs a b).map (·.l) = addLL (a.map (·.l)) (b.map (·.l))
  | [], _ => by simp [addLs, addLL]
  | _ :: _, [] => by simp [addLs, addLL]
  | x :: a, y :: b => by
    have := addLs_l a b
    unfold addLs addLL at *
    simp only [List.zipWith_cons_cons, List.map_cons, this]; rfl
theorem datV_add (a b : Cvr) : datV (addV a b) = addD (datV a) (datV b) := by
  unfold datV addD addV; simp only [addLs_l]
theorem addL_comm (x y : List Int) : addL x y = addL y x := by unfold addL; exact List.zipWith_comm_of_comm addZ_comm
theorem addLL_comm (x y : List (List Int)) : addLL x y = addLL y x := by unfold addLL; exact List.zipWith_comm_of_comm addL_comm
theorem addD_comm (a b : Dat) : addD a b = addD b a := by
  unfold addD; rw [addLL_comm a.pts, addLL_comm a.crs, addZ_comm a.sam, addZ_comm a.ill]
theorem addL_assoc : ∀ {x y z : List Int}, WL x → WL y → WL z → addL (addL x y) z = addL x (addL y z)
  | [], _, _, _, _, _ => by simp [addL]
  | _ :: _, [], _, _, _, _ => by simp [addL]
  | _ :: _, _ :: _, [], _, _, _ => by simp [addL]
  | a :: x, b :: y, c :: z, h1, h2, h3 => by
    have ih := addL_assoc (x := x) (y := y) (z := z) (fun n hn => h1 n (by simp [hn])) (fun n hn => h2 n (by simp [hn])) (fun n hn => h3 n (by simp [hn]))
    unfold addL at *
    simp only [List.zipWith_cons_cons, ih]
    rw [addZ_assoc (h1 a (by simp)) (h2 b (by simp)) (h3 c (by simp))]
def WLL (x : List (List Int)) : Prop := ∀ l ∈ x, WL l
theorem addLL_assoc : ∀ {x y z : List (List Int)}, WLL x → WLL y → WLL z → addLL (addLL x y) z = addLL x (addLL y z)
  | [], _, _, _, _, _ => by simp [addLL]
  | _ :: _, [], _, _, _, _ => by simp [addLL]
  | _ :: _, _ :: _, [], _, _, _ => by simp [addLL]
  | a :: x, b :: y, c :: z, h1, h2, h3 => by
    have ih := addLL_assoc (x := x) (y := y) (z := z) (fun n hn => h1 n (by simp [hn])) (fun n hn => h2 n (by simp [hn])) (fun n hn => h3 n (by simp [hn]))
    unfold addLL at *
    simp only [List.zipWith_cons_cons, ih]
    rw [addL_assoc (h1 a (by simp)) (h2 b (by simp)) (h3 c (by simp))]
structure WD (d : Dat) : Prop where
  pts : WLL d.pts
  crs : WLL d.crs
  sam : withinB d.sam = true
  ill : withinB d.ill = true
theorem addD_assoc {a b c : Dat} (ha : WD a) (hb : WD b) (hc : WD c) : addD (addD a b) c = addD a (addD b c) := by
  unfold addD
  simp only [addLL_assoc ha.pts hb.pts hc.pts, addLL_assoc ha.crs hb.crs hc.crs, addZ_assoc ha.sam hb.sam hc.sam, addZ_assoc ha.ill hb.ill hc.ill]
theorem okP_within {p : Pt} {x : Is} (h : okP p x = true) : WL x.l := by
  unfold okP at h; simp only [Bool.and_eq_true] at h; exact rowF_within h.2
theorem okC_within {m : Mo} {c : Cr} {x : Is} (h : okC m c x = true) : WL x.l := by
  unfold okC at h; simp only [Bool.and_eq_true] at h; exact rowF_within h.2
theorem fit2_all {α : Type} {ok : α → Is → Bool} {Q : Is → Prop} (hq : ∀ a x, ok a x = true → Q x) : ∀ {ws : List α} {xs : List Is}, fit2 ok ws xs = true → ∀ x ∈ xs, Q x
  | _, [], _ => fun _ h => by cases h
  | a :: ws, x :: xs, h => by
    simp only [fit2, Bool.and_eq_true] at h
    intro y hy
    rcases List.mem_cons.1 hy with rfl | hy
    · exact hq _ _ h.1
    · exact fit2_all hq h.2 y hy
  | [], _ :: _, h => by cases h
theorem fitsB_wd {m : Mo} {v : Cvr} (h : fitsB m v = true) : WD (datV v) := by
  rw [fitsB_iff] at h
  obtain ⟨_, h2, h3, h4, h5⟩ := h
  refine ⟨fun l hl => ?_, fun l hl => ?_, h4, h5⟩
  · obtain ⟨x, hx, rfl⟩ := List.mem_map.1 hl
    exact fit2_all (ok := okP) (fun _ _ h => okP_within h) h2 x hx
  · obtain ⟨x, hx, rfl⟩ := List.mem_map.1 hl
    exact fit2_all (ok := okC m) (fun _ _ h => okC_within h) h3 x hx
theorem addL_zero : ∀ {n : Nat} {x : List Int}, WL x → x.length = n → addL (zeros n) x = x
  | 0, [], _, _ => rfl
  | n + 1, a :: x, h, e => by
    have ih := addL_zero (n := n) (x := x) (fun n hn => h n (by simp [hn])) (by simpa using e)
    unfold addL zeros at *
    simp only [List.replicate_succ, List.zipWith_cons_cons, ih, addZ_zero (h a (by simp))]
theorem addLL_zero {α : Type} {ok : α → Is → Bool} (f : α → Nat) (hok : ∀ a x, ok a x = true → x.l.length = f a ∧ WL x.l) : ∀ {ws : List α} {xs : List Is}, fit2 ok ws xs = true → addLL ((ws.map fun a => zIs (f a)).map (·.l)) (xs.map (·.l)) = xs.map (·.l)
  | [], [], _ => rfl
  | a :: ws, x :: xs, h => by
    simp only [fit2, Bool.and_eq_true] at h
    have ih := addLL_zero f hok h.2
    unfold addLL at *
    simp only [List.map_cons, List.zipWith_cons_cons, ih]
    rw [show addL (zIs (f a)).l x.l = x.l from addL_zero (hok _ _ h.1).2 (hok _ _ h.1).1]
  | [], _ :: _, h => by cases h
  | _ :: _, [], h => by cases h
theorem okP_len {p : Pt} {x : Is} (h : okP p x = true) : x.l.length = p.bins.length := by
  unfold okP at h; simp only [Bool.and_eq_true, beq_iff_eq] at h; exact h.1
theorem okC_len {m : Mo} {c : Cr} {x : Is} (h : okC m c x = true) : x.l.length = prodN (szs m c.pts) := by
  unfold okC at h; simp only [Bool.and_eq_true, beq_iff_eq] at h; exact h.1
theorem addD_zero {m : Mo} {v : Cvr} (h : fitsB m v = true) : addD (datV (emptyV m)) (datV v) = datV v := by
  rw [fitsB_iff] at h
  obtain ⟨_, h2, h3, h4, h5⟩ := h
  unfold addD datV emptyV zPs zCs
  simp only [addZ_zero h4, addZ_zero h5]
  rw [addLL_zero (ok := okP) (fun p => p.bins.length) (fun _ _ h => ⟨okP_len h, okP_within h⟩) h2, addLL_zero (ok := okC m) (fun c => prodN (szs m c.pts)) (fun _ _ h => ⟨okC_len h, okC_within h⟩) h3]
end Go.Proofs.YtocilianjfhifaaGreatDoor.Cov
/- Sums and equality of lists of counts, on both sides; no condition but the bounds on lengths. -/
set_option linter.unusedSimpArgs false
set_option maxRecDepth 8000
namespace Go.Proofs.YtocilianjfhifaaGreatDoor.Cov
open Go Go.Proofs Go.Proofs.YtocilianjfhifaaGreatDoor.Sm Go.Proofs.YtocilianjfhifaaGreatDoor.Bins Go.RowKit

theorem add_prog (G : Nat → AV) (a b : Int) (h : Hp) (ha : withinB a = true) (hb : withinB b = true) : PCall (En G) 147 [.int .i64 a, .int .i64 b] h (.int .i64 (addZ a b)) := by
  have h1 := withinB_iff.1 ha
  have h2 := withinB_iff.1 hb
  refine acalls_of (H := Hint.none) (enM G) Tryz.func147 rfl (by kernel_rfl) (by kernel_rfl) (Nat.le_of_ble_eq_true (by kernel_rfl)) ?_
  show awp _ _ _ _ _ (endQ _ [.tmp 4] _)
  simp -implicitDefEqProofs only [awp_seq, awp_reg, awp_ret, seqQ_n, end_r, WW_one, WW_nil, none_md, none_fz, frz_nil, ownOp, wc_app, wcont_s, upd_app, ev_tmp, ev_const, av_int, x_move, x_assign, x_bin, x_min, holdsO_ofO, bin_add, min_ii, frameOf_zero, frameOf_succ, ↓reduceIte, Nat.reduceEqDiff, Option.getD_some, Bool.not_false, enP, wrap_i64 (n := a + b) (by omega) (by omega)]
  exact ⟨rfl, trivial⟩
/-- two lists of lists of counts of the same lengths -/
structure Sh2 (a b : List Is) : Prop where
  len : a.length = b.length
  row : ∀ i (ha : i < a.length) (hb : i < b.length), a[i].l.length = b[i].l.length ∧ a[i].l ≠ [] ∧ WL a[i].l ∧ WL b[i].l ∧ a[i].l.length ≤ 1048576
  num : a.length ≤ 1048576
theorem fill_step (g : List Int) (k : Nat) (hk : k < g.length) : ((g.take k ++ zeros (g.length - k)).map encI).set k (encI g[k]) = (g.take (k + 1) ++ zeros (g.length - (k + 1))).map encI := by
  have hz : zeros (g.length - k) = 0 :: zeros (g.length - (k + 1)) := by
    unfold zeros
    rw [show g.length - k = (g.length - (k + 1)) + 1 by omega, List.replicate_succ]
  rw [hz, List.take_succ_eq_append_getElem hk]
  simp only [List.map_append, List.map_cons, List.map_nil, List.append_assoc, List.singleton_append]
  rw [List.set_append_right _ _ (by simp; omega)]
  simp [Nat.min_eq_left (Nat.le_of_lt hk)]
theorem fill_end (g : List Int) : (g.take g.length ++ zeros (g.length - g.length)).map encI = g.map encI := by
  rw [List.take_length, Nat.sub_self]; simp [zeros]
theorem fill_len (g : List Int) (k : Nat) (hk : k ≤ g.length) : (g.take k ++ zeros (g.length - k)).length = g.length := by
  simp [zeros]; omega
theorem mkI (h : Hp) (n : Nat) (hn : n ≤ 1048576) : aMakeSlice Tryz.prog true h 57 (.int .i64 (n : Int)) (.int .i64 (n : Int)) = some (.own h.length 0 n, h ++ [.live 1 ((zeros n).map encI)]) := by
  rw [mk56 h n hn, encN_eq]
  simp [zeros]
theorem st_ownI {h : Hp} {o j : Nat} {rows : List (List AV)} {x : Int} (ho : h[o]? = some (.live 1 rows)) (hj : ∃ v, rows[j]? = some [v]) : aStore Tryz.prog h 3 (.ptr o j 0) (.int .i64 x) = some (h.set o (.live 1 (rows.set j (encI x)))) := by
  obtain ⟨v, hv⟩ := hj
  rw [store_row (ac_int _ _) sz3 ho hv (by simp)]; rfl
theorem set_top (h : Hp) (x y : ABlk) : (h ++ [x]).set h.length y = h ++ [y] := by simp
theorem row_some {g : List Int} {j : Nat} (hj : j < g.length) : ∃ v, (g.map encI)[j]? = some [v] := ⟨_, by rw [List.getElem?_map, List.getElem?_eq_getElem hj]; rfl⟩
theorem bs26a (h : Hp) (m : SM) (xs : List (List AV)) : aBuildSlice Tryz.prog false h 26 1 [(0, .sl m 1 xs)] = some (.sl .full 1 [[.sl m 1 xs]], h) := by kernel_rfl
theorem frzL : Frz encL := fun _ _ _ _ => ⟨rfl, rfl⟩
theorem frzI1 (g : List Int) : allFrozen (g.map encI) = true := by
  unfold allFrozen
  rw [List.all_eq_true]
  intro r hr
  obtain ⟨x, _, rfl⟩ := List.mem_map.1 hr
  rfl
theorem nm_any {α : Type} {ys : List α} (h : ys ≠ []) : nm ys = .any := by cases ys with
  | nil => exact absurd rfl h
  | cons _ _ => rfl
theorem addLs_len (a b : List Is) (h : a.length = b.length) : (addLs a b).length = a.length := by unfold addLs; rw [List.length_zipWith]; omega
theorem addL_len (x y : List Int) (h : x.length = y.length) : (addL x y).length = x.length := by unfold addL; rw [List.length_zipWith]; omega
theorem addLs_get (a b : List Is) (i : Nat) (ha : i < a.length) (hb : i < b.length) (hi : i < (addLs a b).length) : (addLs a b)[i] = addIs a[i] b[i] := List.getElem_zipWith
theorem addL_get (x y : List Int) (i : Nat) (ha : i < x.length) (hb : i < y.length) (hi : i < (addL x y).length) : (addL x y)[i] = addZ x[i] y[i] := List.getElem_zipWith
set_option maxHeartbeats 1000000 in
theorem lists_prog (G : Nat → AV) (a b : List Is) (s t : SM) (h : Hp) (hs : Sh2 a b) : PCall (En G) 146 [.sl s 1 (a.map encL), .sl t 1 (b.map encL)] h (.sl (nm (addLs a b)) 1 ((addLs a b).map encL)) := by
  refine outG_pure frzL ?_
  have hl := hs.len
  have hn := hs.num
  have hsl := addLs_len a b hl
  refine acalls_of (H := hint [] [(43, [42])]) (enM G) Tryz.func146 rfl (by kernel_rfl) (by kernel_rfl) (Nat.le_of_ble_eq_true (by kernel_rfl)) ?_
  show awp _ _ _ _ _ (endQ _ [.tmp 4] _)
  simp -implicitDefEqProofs only [hint_md, List.contains_nil, Nat.reduceBEq, awp_seq, awp_block, awp_reg, seqQ_n, WW_one, WW_nil, frz_nil, ownOp, wc_app, wcont_s, upd_app, ev_tmp, ev_const, av_int, av_nil, x_move, x_assign, x_len, holdsO_ofO, frameOf_zero, ↓reduceIte, Nat.reduceEqDiff, Option.getD_some, Bool.not_false, enP, ln26, Bool.false_eq_true, hint_fz1, List.length_map]
  refine awp_loop (fun n F H => ∃ i, n + i = a.length ∧ F 1 = .sl t 1 (b.map encL) ∧ F 10 = .sl s 1 (a.map encL) ∧ F 11 = .int .i64 a.length ∧ F 12 = .int .i64 (i : Nat) ∧ ext h H ∧ outG 1 encL h ((addLs a b).take i) (F 5) H) a.length ⟨0, by simp, by simp -implicitDefEqProofs only [upd_app, frameOf_zero, frameOf_succ, ↓reduceIte, Nat.reduceEqDiff], by simp -implicitDefEqProofs only [upd_app, ↓reduceIte, Nat.reduceEqDiff], by simp -implicitDefEqProofs only [upd_app, ↓reduceIte, Nat.reduceEqDiff], by simp -implicitDefEqProofs only [upd_app, ↓reduceIte]; rfl, ext.rfl' h, by rw [List.take_zero]; exact outG.nil _ _ _ _⟩ ?_
  rintro n F H ⟨i, hi, f1, f10, f11, f12, he, ho⟩
  simp -implicitDefEqProofs only [hint_md, List.contains_nil, Nat.reduceBEq, awp_seq, awp_reg, awp_cond, seqQ_n, WW_one, WW_nil, frz_nil, ownOp, wc_app, wcont_s, upd_app, ev_tmp, x_bin, holdsO_ofO, bin_lss, ↓reduceIte, Option.getD_some, Bool.not_false, enP, Bool.false_eq_true, hint_fz1, f11, f12]
  refine cond_of (fun hc => ?_) (fun hc => ?_)
  · have ha : i < a.length := by simpa using hc
    have hb : i < b.length := by omega
    obtain ⟨r1, r2, r3, r4, r5⟩ := hs.row i ha hb
    have hSi : i < (addLs a b).length := by omega
    have hget := addLs_get a b i ha hb hSi
    have htk := List.take_succ_eq_append_getElem hSi
    rw [hget] at htk
    have hgl := addL_len _ _ r1
    have hgi := addL_get a[i].l b[i].l
    have hgne : addL a[i].l b[i].l ≠ [] := fun e => r2 (List.eq_nil_of_length_eq_zero (by rw [← hgl, e]; rfl))
    have hadd : addIs a[i] b[i] = ⟨.any, addL a[i].l b[i].l⟩ := by unfold addIs; rw [nm_any hgne]
    rw [hadd] at htk
    generalize addL a[i].l b[i].l = g at hgl hgi hgne htk
    simp -implicitDefEqProofs only [hint_md, List.contains_nil, Nat.reduceBEq, awp_seq, awp_block, awp_reg, awp_skip, seqQ_n, WW_one, WW_nil, frz_nil, ownOp, wc_app, wcont_s, upd_app, ev_tmp, ev_const, av_int, x_move, x_assign, x_load, x_makeSlice, x_indexAddr, x_len, holdsO_some, holdsO_ofO, ↓reduceIte, Nat.reduceEqDiff, Option.getD_some, Bool.not_false, enP, ix26, ln57, Bool.false_eq_true, hint_fz1, f10, f12, ix_map ha, load_map ag57 ha, encL0, List.length_map, mkI _ _ r5]
    refine awp_lp 2 (fun F' H' => F' 1 = .sl t 1 (b.map encL) ∧ F' 10 = .sl s 1 (a.map encL) ∧ F' 11 = .int .i64 a.length ∧ F' 12 = .int .i64 (i : Nat) ∧ F' 5 = F 5 ∧ F' 8 = .own H.length 0 g.length ∧ H' = H ++ [.live 1 (g.map encI)]) (fun _ _ => False) ?_ ?_ (fun _ _ hh => hh.elim)
    · refine awp_loop (fun n F' H' => ∃ k, n + k = g.length ∧ F' 1 = .sl t 1 (b.map encL) ∧ F' 10 = .sl s 1 (a.map encL) ∧ F' 11 = .int .i64 a.length ∧ F' 12 = .int .i64 (i : Nat) ∧ F' 5 = F 5 ∧ F' 8 = .own H.length 0 g.length ∧ F' 7 = .sl a[i].m 1 (a[i].l.map encI) ∧ F' 6 = .int .i64 (i : Nat) ∧ F' 21 = .int .i64 g.length ∧ F' 22 = .int .i64 (k : Nat) ∧ H' = H ++ [.live 1 ((g.take k ++ zeros (g.length - k)).map encI)]) g.length ⟨0, by simp, by simp -implicitDefEqProofs only [upd_app, ↓reduceIte, Nat.reduceEqDiff, f1], by simp -implicitDefEqProofs only [upd_app, ↓reduceIte, Nat.reduceEqDiff, f10], by simp -implicitDefEqProofs only [upd_app, ↓reduceIte, Nat.reduceEqDiff, f11], by simp -implicitDefEqProofs only [upd_app, ↓reduceIte, Nat.reduceEqDiff, f12], by simp -implicitDefEqProofs only [upd_app, ↓reduceIte, Nat.reduceEqDiff], by simp -implicitDefEqProofs only [upd_app, ↓reduceIte, Nat.reduceEqDiff]; rw [hgl], by simp -implicitDefEqProofs only [upd_app, ↓reduceIte, Nat.reduceEqDiff], by simp -implicitDefEqProofs only [upd_app, ↓reduceIte, Nat.reduceEqDiff], by simp -implicitDefEqProofs only [upd_app, ↓reduceIte, Nat.reduceEqDiff]; rw [hgl], by simp -implicitDefEqProofs only [upd_app, ↓reduceIte]; rfl, by rw [List.take_zero, List.nil_append, Nat.sub_zero, hgl]⟩ ?_
      rintro n' F' H' ⟨k, hk, g1, g10, g11, g12, g5, g8, g7, g6, g21, g22, rfl⟩
      simp -implicitDefEqProofs only [hint_md, List.contains_nil, Nat.reduceBEq, awp_seq, awp_reg, awp_cond, seqQ_n, WW_one, WW_nil, frz_nil, ownOp, wc_app, wcont_s, upd_app, ev_tmp, x_bin, holdsO_ofO, bin_lss, ↓reduceIte, Option.getD_some, Bool.not_false, enP, Bool.false_eq_true, hint_fz1, g21, g22]
      refine cond_of (fun hc => ?_) (fun hc => ?_)
      · have hk' : k < g.length := by simpa using hc
        have hka : k < a[i].l.length := by omega
        have hkb : k < b[i].l.length := by omega
        have hw := add_prog G _ _ (H ++ [.live 1 ((g.take k ++ zeros (g.length - k)).map encI)]) (r3 _ (List.getElem_mem hka)) (r4 _ (List.getElem_mem hkb))
        rw [← hgi k hka hkb hk'] at hw
        have hrow := row_some (g := g.take k ++ zeros (g.length - k)) (j := k) (by rw [fill_len g k (by omega)]; exact hk')
        simp -implicitDefEqProofs only [hint_md, List.contains_nil, Nat.reduceBEq, awp_seq, awp_block, awp_reg, awp_skip, seqQ_n, WW_one, WW_nil, frz_nil, ownOp, wc_app, wcont_s, upd_app, ev_tmp, x_move, x_assign, ↓reduceIte, Nat.reduceEqDiff, Option.getD_some, Bool.not_false, Bool.false_eq_true, hint_fz1, g22]
        refine awp_draw (by kernel_rfl) ?_
        simp -implicitDefEqProofs only [YO_f, hint_md, List.contains_nil, dc_app, dcont_s, DD_one, y_move, y_load, y_indexAddr, Y1_call, callP_fn, upd_app, ev_tmp, ev_func, x_load, x_indexAddr, holdsO_ofO, List.map_cons, List.map_nil, List.append_nil, ↓reduceIte, Nat.reduceEqDiff, Nat.reduceAdd, Option.getD_some, enP, ix26, ix57, g1, g6, g7, g8, ix_map hka, load_map ag3 hka, encI0, ix_map hb, load_map ag57 hb, encL0, ix_map hkb, load_map ag3 hkb]
        refine ⟨_, hw, ?_⟩
        try simp -implicitDefEqProofs only [YO_f, hint_md, List.contains_nil, Nat.reduceBEq, dc_app, dcont_s, dcont_n, DD_nil, DD_one, y_store, awp_reg, seqQ_n, blk_n, rnd_n, WW_one, WW_nil, frz_nil, ownOp, wc_app, wcont_s, upd_app, ev_tmp, ev_const, av_int, x_move, x_store, x_bin, holdsO_ofO, holdsO_ofS, bin_add, ↓reduceIte, Nat.reduceEqDiff, Nat.zero_add, Option.getD_some, Bool.not_false, enP, Option.getD_none, Bool.false_eq_true, hint_fz1, g22, ix_own (top_get H _) hk', Nat.zero_add, st_ownI (top_get H _) hrow, set_top, fill_step g k hk', wrap_succ (show k < 9223372036854775807 by omega)]
        exact ⟨n' - 1, by omega, k + 1, by omega, g1, g10, g11, g12, g5, g8, g7, g6, g21, rfl, rfl⟩
      · have hk' : ¬ k < g.length := by simpa using hc
        obtain rfl : k = g.length := by omega
        simp -implicitDefEqProofs only [awp_exit, seqQ_e, lp_e, rnd_e, upd_app, ↓reduceIte, Nat.reduceEqDiff]
        exact ⟨g1, g10, g11, g12, g5, g8, by rw [fill_end]⟩
    · rintro F' H' ⟨g1, g10, g11, g12, g5, g8, rfl⟩
      have hz := frz_own1 (H := H ++ [.live 1 (g.map encI)]) (i := 42) (off := 0) (len := g.length) (top_get H _) (by simp) (by rw [List.drop_zero, List.take_of_length_le (by simp)]; exact frzI1 g)
      rw [List.drop_zero, List.take_of_length_le (by simp), set_top] at hz
      obtain ⟨v', H2, hap, ho', _, he', _, _⟩ := (ho.app [.dead]).append ud26 sz57 zs26 by26 (by omega) (by rw [List.length_take]; omega) (he.app [.dead]) ⟨.any, g⟩
      simp -implicitDefEqProofs only [evp_nil, evp_cons, hint_md, List.contains_nil, Nat.reduceBEq, awp_reg, seqQ_n, blk_e, WW_one, frz_nil, ownOp, wc_app, wcont_s, upd_app, ev_tmp, x_move, x_buildSlice, x_append, holdsO_some, ↓reduceIte, Nat.reduceEqDiff, Option.getD_some, Bool.not_false, enP, Bool.false_eq_true, hint_fz1, g5, g8, frz_cons, frz_nil, hz, bs26a]
      refine holdsO_of (v := v') (h := H2) hap ?_
      simp -implicitDefEqProofs only [hint_md, List.contains_nil, Nat.reduceBEq, awp_reg, seqQ_n, blk_n, rnd_n, WW_one, WW_nil, frz_nil, ownOp, wc_app, wcont_s, upd_app, ev_tmp, ev_const, av_int, x_move, x_assign, x_bin, holdsO_ofO, bin_add, ↓reduceIte, Nat.reduceEqDiff, Option.getD_some, Bool.not_false, enP, Bool.false_eq_true, hint_fz1, g12, wrap_succ (show i < 9223372036854775807 by omega)]
      refine ⟨n - 1, by omega, i + 1, by omega, g1, g10, g11, rfl, he', ?_⟩
      rw [htk]; exact ho'
  · have ha : ¬ i < a.length := by simpa using hc
    rw [List.take_of_length_le (by omega)] at ho
    simp -implicitDefEqProofs only [hint_md, List.contains_nil, Nat.reduceBEq, awp_seq, awp_reg, awp_ret, awp_exit, seqQ_n, seqQ_e, blk_e, rnd_e, end_r, WW_one, WW_nil, frz_nil, ownOp, wc_app, wcont_s, upd_app, ev_tmp, x_move, x_assign, ↓reduceIte, Nat.reduceEqDiff, Option.getD_some, Bool.not_false, Bool.false_eq_true, hint_fz1]
    exact ⟨he, ho⟩
end Go.Proofs.YtocilianjfhifaaGreatDoor.Cov
/- Sums of lists of counts, and equality of coverages, on the reference's side; no condition but the bounds on lengths. -/
set_option linter.unusedSimpArgs false
set_option maxRecDepth 8000
namespace Go.Proofs.YtocilianjfhifaaGreatDoor.Cov
open Go Go.Proofs Go.Proofs.YtocilianjfhifaaGreatDoor.Sm Go.Proofs.YtocilianjfhifaaGreatDoor.Bins Go.RowKit

set_option maxHeartbeats 1000000 in
theorem sums_ref (G : Nat → AV) (a b : List Is) (s t : SM) (h : Hp) (hs : Sh2 a b) : PCall (En G) 87 [.sl s 1 (a.map encL), .sl t 1 (b.map encL)] h (.sl (nm (addLs a b)) 1 ((addLs a b).map encL)) := by
  refine outG_pure frzL ?_
  have hl := hs.len
  have hn := hs.num
  have hsl := addLs_len a b hl
  refine acalls_of (H := hint [42] [(45, [44])]) (enM G) Tryz.func87 rfl (by kernel_rfl) (by kernel_rfl) (Nat.le_of_ble_eq_true (by kernel_rfl)) ?_
  show awp _ _ _ _ _ (endQ _ [.tmp 4] _)
  simp -implicitDefEqProofs only [hint_md, List.contains_cons, List.contains_nil, Nat.reduceBEq, Bool.or_false, awp_seq, awp_block, awp_reg, seqQ_n, WW_one, WW_nil, frz_nil, ownOp, wc_app, wcont_s, ev_const, av_int, av_nil, x_assign, ↓reduceIte, Option.getD_some, Bool.not_false, enP, Bool.false_eq_true, hint_fz1, List.length_map]
  refine awp_loop (fun n F H => ∃ i, n + i = a.length ∧ F 0 = .sl s 1 (a.map encL) ∧ F 1 = .sl t 1 (b.map encL) ∧ F 6 = .int .i64 (i : Nat) ∧ ext h H ∧ outG 1 encL h ((addLs a b).take i) (F 5) H) a.length ⟨0, by simp, by simp -implicitDefEqProofs only [upd_app, frameOf_zero, ↓reduceIte, Nat.reduceEqDiff], by simp -implicitDefEqProofs only [upd_app, frameOf_zero, frameOf_succ, ↓reduceIte, Nat.reduceEqDiff], by simp -implicitDefEqProofs only [upd_app, ↓reduceIte]; rfl, ext.rfl' h, by rw [List.take_zero]; exact outG.nil _ _ _ _⟩ ?_
  rintro n F H ⟨i, hi, f0, f1, f6, he, ho⟩
  simp -implicitDefEqProofs only [hint_md, List.contains_cons, List.contains_nil, Nat.reduceBEq, Bool.or_false, awp_seq, awp_reg, awp_cond, seqQ_n, WW_one, WW_nil, frz_nil, ownOp, wc_app, wcont_s, upd_app, ev_tmp, x_move, x_bin, x_len, holdsO_ofO, bin_lss, ↓reduceIte, Nat.reduceEqDiff, Option.getD_some, Bool.not_false, enP, ln26, Bool.false_eq_true, hint_fz1, f0, f6, List.length_map]
  refine cond_of (fun hc => ?_) (fun hc => ?_)
  · have ha : i < a.length := by simpa using hc
    have hb : i < b.length := by omega
    obtain ⟨r1, r2, r3, r4, r5⟩ := hs.row i ha hb
    have hSi : i < (addLs a b).length := by omega
    have hget := addLs_get a b i ha hb hSi
    have htk := List.take_succ_eq_append_getElem hSi
    rw [hget] at htk
    have hgl := addL_len _ _ r1
    have hgi := addL_get a[i].l b[i].l
    have hgne : addL a[i].l b[i].l ≠ [] := fun e => r2 (List.eq_nil_of_length_eq_zero (by rw [← hgl, e]; rfl))
    have hadd : addIs a[i] b[i] = ⟨.any, addL a[i].l b[i].l⟩ := by unfold addIs; rw [nm_any hgne]
    rw [hadd] at htk
    generalize addL a[i].l b[i].l = g at hgl hgi hgne htk
    simp -implicitDefEqProofs only [hint_md, List.contains_cons, List.contains_nil, Nat.reduceBEq, Bool.or_false, awp_seq, awp_block, awp_reg, awp_skip, seqQ_n, WW_one, WW_nil, frz_nil, ownOp, wc_app, wcont_s, ev_const, av_int, av_nil, x_assign, ↓reduceIte, Option.getD_some, Bool.not_false, Bool.false_eq_true, hint_fz1]
    refine awp_lp 2 (fun F' H' => F' 0 = .sl s 1 (a.map encL) ∧ F' 1 = .sl t 1 (b.map encL) ∧ F' 6 = .int .i64 (i : Nat) ∧ F' 5 = F 5 ∧ ext H H' ∧ outG 1 encI H g (F' 7) H') (fun _ _ => False) ?_ ?_ (fun _ _ hh => hh.elim)
    · refine awp_loop (fun n F' H' => ∃ k, n + k = g.length ∧ F' 0 = .sl s 1 (a.map encL) ∧ F' 1 = .sl t 1 (b.map encL) ∧ F' 6 = .int .i64 (i : Nat) ∧ F' 5 = F 5 ∧ F' 8 = .int .i64 (k : Nat) ∧ ext H H' ∧ outG 1 encI H (g.take k) (F' 7) H') g.length ⟨0, by simp, by simp -implicitDefEqProofs only [upd_app, ↓reduceIte, Nat.reduceEqDiff, f0], by simp -implicitDefEqProofs only [upd_app, ↓reduceIte, Nat.reduceEqDiff, f1], by simp -implicitDefEqProofs only [upd_app, ↓reduceIte, Nat.reduceEqDiff, f6], by simp -implicitDefEqProofs only [upd_app, ↓reduceIte, Nat.reduceEqDiff], by simp -implicitDefEqProofs only [upd_app, ↓reduceIte]; rfl, ext.rfl' H, by rw [List.take_zero]; exact outG.nil _ _ _ _⟩ ?_
      rintro n' F' H' ⟨k, hk, g0, g1, g6, g5, g8, ge, go⟩
      simp -implicitDefEqProofs only [hint_md, List.contains_cons, List.contains_nil, Nat.reduceBEq, Bool.or_false, awp_seq, awp_reg, awp_cond, seqQ_n, WW_one, WW_nil, frz_nil, ownOp, wc_app, wcont_s, upd_app, ev_tmp, x_move, x_load, x_bin, x_indexAddr, x_len, holdsO_ofO, bin_lss, ↓reduceIte, Nat.reduceEqDiff, Option.getD_some, Bool.not_false, enP, ix26, ln57, Bool.false_eq_true, hint_fz1, g0, g6, g8, ix_map ha, load_map ag57 ha, encL0, List.length_map]
      refine cond_of (fun hc => ?_) (fun hc => ?_)
      · have hka : k < a[i].l.length := by simpa using hc
        have hk' : k < g.length := by omega
        have hkb : k < b[i].l.length := by omega
        have w1 := withinB_iff.1 (r3 _ (List.getElem_mem hka))
        have w2 := withinB_iff.1 (r4 _ (List.getElem_mem hkb))
        have hw : min (a[i].l[k] + b[i].l[k]) 1099511627776 = g[k] := (hgi k hka hkb hk').symm
        obtain ⟨v', H2, hap, ho', _, he', _, _⟩ := go.append ud57 sz3 zs57 by57 (by omega) (by rw [List.length_take]; omega) ge g[k]
        rw [← List.take_succ_eq_append_getElem hk'] at ho'
        simp -implicitDefEqProofs only [awp_seq, awp_block, awp_skip, seqQ_n]
        refine awp_draw (by kernel_rfl) ?_
        simp -implicitDefEqProofs only [YO_f, evp_nil, evp_cons, hint_md, List.contains_cons, List.contains_nil, Nat.reduceBEq, Bool.or_false, dc_app, dcont_s, DD_one, y_move, y_buildSlice, y_load, y_bin, y_indexAddr, y_builtin, upd_app, ev_tmp, ev_const, av_int, x_buildSlice, x_load, x_bin, x_indexAddr, x_min, x_append, holdsO_some, holdsO_ofO, bin_add, min_ii, ↓reduceIte, Nat.reduceEqDiff, Nat.reduceAdd, Option.getD_some, enP, ix26, ix57, g0, g1, g6, g8, ix_map ha, load_map ag57 ha, encL0, ix_map hka, load_map ag3 hka, encI0, ix_map hb, load_map ag57 hb, ix_map hkb, load_map ag3 hkb, wrap_i64 (n := a[i].l[k] + b[i].l[k]) (by omega) (by omega), hw, bs56]
        refine holdsO_of (v := v') (h := H2) hap ?_
        simp -implicitDefEqProofs only [YO_f, hint_md, List.contains_cons, List.contains_nil, Nat.reduceBEq, Bool.or_false, dc_app, dcont_s, DD_nil, DD_one, y_assign, awp_reg, seqQ_n, blk_n, rnd_n, WW_one, WW_nil, frz_nil, ownOp, wc_app, wcont_s, upd_app, ev_tmp, ev_const, av_int, x_move, x_assign, x_bin, holdsO_ofO, bin_add, ↓reduceIte, Nat.reduceEqDiff, Nat.reduceAdd, Option.getD_some, Bool.not_false, enP, Bool.false_eq_true, hint_fz1, g8, wrap_succ (show k < 9223372036854775807 by omega)]
        exact ⟨n' - 1, by omega, k + 1, by omega, g0, g1, g6, g5, rfl, he', ho'⟩
      · have hk' : ¬ k < a[i].l.length := by simpa using hc
        rw [List.take_of_length_le (by omega)] at go
        simp -implicitDefEqProofs only [awp_exit, seqQ_e, lp_e, rnd_e, upd_app, ↓reduceIte, Nat.reduceEqDiff]
        exact ⟨g0, g1, g6, g5, ge, go⟩
    · rintro F' H' ⟨g0, g1, g6, g5, ge, go⟩
      rcases go with ⟨e, _⟩ | ⟨_, o, o1, g7, o3⟩
      · exact absurd e hgne
      have hz := frz_own1 (H := H') (i := 44) (off := 0) (len := g.length) o3 (by simp) (by rw [List.drop_zero, List.take_of_length_le (by simp)]; exact frzI1 g)
      rw [List.drop_zero, List.take_of_length_le (by simp)] at hz
      have ho1 : outG 1 encL h ((addLs a b).take i) (F 5) (H'.set o .dead) := by
        obtain ⟨x, rfl⟩ := ge
        refine ho.keep fun b' hb' => ?_
        have := ho.lt hb'
        rw [List.getElem?_set_ne (by omega), List.getElem?_append_left this.2]
      have he1 : ext h (H'.set o .dead) := (he.trans ge).set (Nat.le_trans he.le o1) _
      obtain ⟨v', H2, hap, ho', _, he', _, _⟩ := ho1.append ud26 sz57 zs26 by26 (by omega) (by rw [List.length_take]; omega) he1 ⟨.any, g⟩
      simp -implicitDefEqProofs only [evp_nil, evp_cons, hint_md, List.contains_cons, List.contains_nil, Nat.reduceBEq, Bool.or_false, awp_reg, seqQ_n, blk_e, WW_one, frz_nil, ownOp, wc_app, wcont_s, upd_app, ev_tmp, x_move, x_buildSlice, x_append, holdsO_some, ↓reduceIte, Nat.reduceEqDiff, Option.getD_some, Bool.not_false, enP, Bool.false_eq_true, hint_fz1, g5, g7, frz_cons, frz_nil, hz, bs26a]
      refine holdsO_of (v := v') (h := H2) hap ?_
      simp -implicitDefEqProofs only [hint_md, List.contains_cons, List.contains_nil, Nat.reduceBEq, Bool.or_false, awp_reg, seqQ_n, blk_n, rnd_n, WW_one, WW_nil, frz_nil, ownOp, wc_app, wcont_s, upd_app, ev_tmp, ev_const, av_int, x_move, x_assign, x_bin, holdsO_ofO, bin_add, ↓reduceIte, Nat.reduceEqDiff, Option.getD_some, Bool.not_false, enP, Bool.false_eq_true, hint_fz1, g6, wrap_succ (show i < 9223372036854775807 by omega)]
      refine ⟨n - 1, by omega, i + 1, by omega, g0, g1, rfl, he', ?_⟩
      rw [htk]; exact ho'
  · have ha : ¬ i < a.length := by simpa using hc
    rw [List.take_of_length_le (by omega)] at ho
    simp -implicitDefEqProofs only [hint_md, List.contains_cons, List.contains_nil, Nat.reduceBEq, Bool.or_false, awp_seq, awp_reg, awp_ret, awp_exit, seqQ_n, seqQ_e, blk_e, rnd_e, end_r, WW_one, WW_nil, frz_nil, ownOp, wc_app, wcont_s, upd_app, ev_tmp, x_move, x_assign, ↓reduceIte, Nat.reduceEqDiff, Option.getD_some, Bool.not_false, Bool.false_eq_true, hint_fz1]
    exact ⟨he, ho⟩
/-- are lists of lists equal? -/
def eqLs : List Is → List Is → Bool
  | [], [] => true
  | a :: ws, b :: bs => eqL a.l b.l && eqLs ws bs
  | _, _ => false
theorem eqLs_iff : ∀ {a b : List Is}, eqLs a b = true ↔ a.map (·.l) = b.map (·.l)
  | [], [] => by simp [eqLs]
  | x :: a, y :: b => by
    have ih := eqLs_iff (a := a) (b := b)
    simp only [eqLs, Bool.and_eq_true, ih, List.map_cons, List.cons.injEq, eqL, decide_eq_true_eq]
  | [], _ :: _ => by simp [eqLs]
  | _ :: _, [] => by simp [eqLs]
theorem eqLs_len {a b : List Is} (h : eqLs a b = true) : a.length = b.length := by
  have := congrArg List.length (eqLs_iff.1 h)
  simpa using this
theorem eqLs_step (a b : List Is) (k : Nat) (ha : k < a.length) (hb : k < b.length) : eqLs (a.drop k) (b.drop k) = (eqL a[k].l b[k].l && eqLs (a.drop (k + 1)) (b.drop (k + 1))) := by
  rw [List.drop_eq_getElem_cons ha, List.drop_eq_getElem_cons hb]; rfl
theorem lists46_ref (G : Nat → AV) (a b : List Is) (s t : SM) (h : Hp) (hl : a.length ≤ 1048576) (hb : ∀ x ∈ b, x.l.length ≤ 1048576) : PCall (En G) 86 [.sl s 1 (a.map encL), .sl t 1 (b.map encL)] h (.bool (eqLs a b)) := by
  refine acalls_of (H := Hint.none) (enM G) Tryz.func86 rfl (by kernel_rfl) (by kernel_rfl) (Nat.le_of_ble_eq_true (by kernel_rfl)) ?_
  show awp _ _ _ _ _ (endQ _ [.tmp 4] _)
  simp -implicitDefEqProofs only [awp_seq, awp_reg, awp_cond, seqQ_n, WW_one, WW_nil, none_md, none_fz, frz_nil, ownOp, wc_app, wcont_s, upd_app, ev_tmp, ev_const, av_bool, x_move, x_assign, x_bin, x_len, holdsO_ofO, bin_neq, frameOf_zero, frameOf_succ, ↓reduceIte, Nat.reduceEqDiff, Option.getD_some, Bool.not_false, enP, ln26, List.length_map]
  refine cond_of (fun h1 => ?_) (fun h1 => ?_)
  · simp -implicitDefEqProofs only [awp_seq, awp_reg, awp_ret, seqQ_n, seqQ_r, end_r, WW_one, WW_nil, none_md, none_fz, frz_nil, ownOp, wc_app, wcont_s, upd_app, ev_const, av_bool, x_assign, ↓reduceIte, Option.getD_some, Bool.not_false]
    have : eqLs a b = false := by
      rw [← Bool.not_eq_true]; intro e
      have := eqLs_len e
      simp [this] at h1
    exact ⟨by rw [this], trivial⟩
  have hab : a.length = b.length := by simp at h1; omega
  simp -implicitDefEqProofs only [awp_seq, awp_block, awp_reg, awp_skip, seqQ_n, WW_one, WW_nil, none_md, none_fz, frz_nil, ownOp, wc_app, wcont_s, ev_const, av_int, x_assign, Option.getD_some, Bool.not_false]
  refine awp_loop (fun n F H => ∃ i, n + i = a.length ∧ F 0 = .sl s 1 (a.map encL) ∧ F 1 = .sl t 1 (b.map encL) ∧ F 5 = .int .i64 (i : Nat) ∧ H = h ∧ eqLs a b = eqLs (a.drop i) (b.drop i)) a.length ⟨0, by simp, by simp -implicitDefEqProofs only [upd_app, frameOf_zero, ↓reduceIte, Nat.reduceEqDiff], by simp -implicitDefEqProofs only [upd_app, frameOf_zero, frameOf_succ, ↓reduceIte, Nat.reduceEqDiff], by simp -implicitDefEqProofs only [upd_app, ↓reduceIte]; rfl, rfl, rfl⟩ ?_
  rintro n F H ⟨i, hi, f0, f1, f5, rfl, hf⟩
  simp -implicitDefEqProofs only [awp_seq, awp_reg, awp_cond, seqQ_n, WW_one, WW_nil, none_md, none_fz, frz_nil, ownOp, wc_app, wcont_s, upd_app, ev_tmp, x_move, x_bin, x_len, holdsO_ofO, bin_lss, ↓reduceIte, Nat.reduceEqDiff, Option.getD_some, Bool.not_false, enP, ln26, f0, f5, List.length_map]
  refine cond_of (fun hc => ?_) (fun hc => ?_)
  · have ha : i < a.length := by simpa using hc
    have hbi : i < b.length := by omega
    have hbl := hb _ (List.getElem_mem hbi)
    rw [eqLs_step a b i ha hbi] at hf
    simp -implicitDefEqProofs only [awp_seq, awp_block, awp_skip, seqQ_n]
    refine awp_draw (by kernel_rfl) ?_
    simp -implicitDefEqProofs only [YO_f, dc_app, dcont_s, DD_one, y_move, y_load, y_un, y_indexAddr, Y1_call, callP_fn, none_md, upd_app, ev_tmp, ev_func, x_load, x_un, x_indexAddr, holdsO_ofO, List.map_cons, List.map_nil, List.append_nil, ↓reduceIte, Nat.reduceEqDiff, Nat.reduceAdd, Option.getD_some, enP, ix26, f0, f1, f5, ix_map ha, load_map ag57 ha, encL0, ix_map hbi, load_map ag57 hbi]
    refine ⟨_, same46_ref G a[i].l b[i].l _ _ _ (by omega), ?_⟩
    try simp -implicitDefEqProofs only [dcont_s, DD_nil, awp_cond, seqQ_n, upd_app, ev_tmp, holdsO_ofO, un_not, ↓reduceIte]
    cases he : eqL a[i].l b[i].l
    · simp -implicitDefEqProofs only [awp_seq, awp_reg, awp_ret, seqQ_n, seqQ_r, blk_r, rnd_r, end_r, cond_t, WW_one, WW_nil, none_md, none_fz, frz_nil, ownOp, wc_app, wcont_s, upd_app, ev_const, av_bool, x_assign, ↓reduceIte, Option.getD_some, Bool.not_false]
      exact ⟨by rw [hf, he]; rfl, trivial⟩
    · simp -implicitDefEqProofs only [awp_reg, awp_skip, seqQ_n, blk_n, rnd_n, cond_f, WW_one, WW_nil, none_md, none_fz, frz_nil, ownOp, wc_app, wcont_s, upd_app, ev_tmp, ev_const, av_int, x_move, x_assign, x_bin, holdsO_ofO, bin_add, ↓reduceIte, Nat.reduceEqDiff, Option.getD_some, Bool.not_true, Bool.not_false, enP, f5, wrap_succ (show i < 9223372036854775807 by omega)]
      exact ⟨n - 1, by omega, i + 1, by omega, f0, f1, rfl, trivial, by rw [hf, he]; rfl⟩
  · have ha : ¬ i < a.length := by simpa using hc
    simp -implicitDefEqProofs only [awp_seq, awp_reg, awp_ret, awp_exit, seqQ_n, seqQ_e, blk_e, rnd_e, end_r, WW_one, WW_nil, none_md, none_fz, frz_nil, ownOp, wc_app, wcont_s, upd_app, ev_const, av_bool, x_assign, ↓reduceIte, Option.getD_some, Bool.not_false]
    exact ⟨by rw [hf, List.drop_eq_nil_of_le (by omega), List.drop_eq_nil_of_le (by omega)]; rfl, trivial⟩
/-- are coverages equal? -/
def eqV (a b : Cvr) : Bool := eqLs a.pts b.pts && eqLs a.crs b.crs && (a.sam == b.sam) && (a.ill == b.ill)
theorem eqV_iff {a b : Cvr} : eqV a b = true ↔ datV a = datV b := by
  unfold eqV datV
  simp only [Bool.and_eq_true, eqLs_iff, beq_iff_eq, Dat.mk.injEq]
  exact ⟨fun ⟨⟨⟨h1, h2⟩, h3⟩, h4⟩ => ⟨h1, h2, h3, h4⟩, fun ⟨h1, h2, h3, h4⟩ => ⟨⟨⟨h1, h2⟩, h3⟩, h4⟩⟩
/-- two coverages in two blocks -/
structure VV (h H : Hp) (a b : Cvr) (bb : Nat) : Prop where
  ga : H[h.length]? = some (.live 4 [encV a])
  gb : H[bb]? = some (.live 4 [encV b])
  hx : ∃ x, H = h ++ x
theorem VV.mk' (h : Hp) (a b : Cvr) : VV h (h ++ [.live 4 [encV a]] ++ [.live 4 [encV b]]) a b (h ++ [ABlk.live 4 [encV a]]).length := ⟨below_get (top_get _ _), top_get _ _, ⟨_, List.append_assoc _ _ _⟩⟩
section
variable {H : Hp} {v : Cvr} {vb : Nat} (gv : H[vb]? = some (.live 4 [encV v]))
include gv
theorem lv0 : aLoad Tryz.prog H 26 (.ptr vb 0 0) = some (.sl v.pm 1 (v.pts.map encL)) := by rw [load_row ag26 gv (row := encV v) rfl, encV0]
theorem lv1 : aLoad Tryz.prog H 26 (.ptr vb 0 1) = some (.sl v.cm 1 (v.crs.map encL)) := by rw [load_row ag26 gv (row := encV v) rfl, encV1]
theorem lv2 : aLoad Tryz.prog H 3 (.ptr vb 0 2) = some (.int .i64 v.sam) := by rw [load_row ag3 gv (row := encV v) rfl, encV2]
theorem lv3 : aLoad Tryz.prog H 3 (.ptr vb 0 3) = some (.int .i64 v.ill) := by rw [load_row ag3 gv (row := encV v) rfl, encV3]
end
theorem same_V (G : Nat → AV) (a b : Cvr) (h : Hp) (ha : CvOk a) (hb : CvOk b) : PCall (En G) 36 [.agg (encV a), .agg (encV b)] h (.bool (eqV a b)) := by
  refine ACalls.pure0 rfl ?_
  refine acalls_of (H := Hint.none) (enM G) Tryz.func36 rfl (by kernel_rfl) (by kernel_rfl) (Nat.le_of_ble_eq_true (by kernel_rfl)) ?_
  show awp _ _ _ _ _ (endQ _ [.tmp 4] _)
  have t := VV.mk' h a b
  simp -implicitDefEqProofs only [awp_seq, awp_reg, seqQ_n, WW_one, WW_nil, none_md, none_fz, frz_nil, ownOp, wc_app, wcont_s, upd_app, ev_tmp, ev_const, av_bool, x_assign, x_box, x_load, x_fieldAddr, holdsO_some, holdsO_ofO, frameOf_zero, frameOf_succ, ↓reduceIte, Nat.reduceEqDiff, Nat.add_zero, Option.getD_some, Bool.not_false, enP, fa28_0, bxV]
  generalize h ++ [ABlk.live 4 [encV a]] ++ [ABlk.live 4 [encV b]] = H at t ⊢
  generalize (h ++ [ABlk.live 4 [encV a]]).length = bb at t ⊢
  simp -implicitDefEqProofs only [WW_one, none_md, none_fz, frz_nil, ownOp, wc_app, wcont_s, upd_app, ev_tmp, ev_func, x_load, x_fieldAddr, X1_call, callA_fn, holdsO_ofO, List.map_cons, List.map_nil, List.append_nil, ↓reduceIte, Nat.reduceEqDiff, Nat.add_zero, Option.getD_some, Bool.not_false, enP, fa28_0, lv0 t.ga, lv0 t.gb]
  refine (lists46_ref G _ _ _ _ _ ha.pts hb.eachP).use ?_
  simp -implicitDefEqProofs only [WW_one, WW_guardE, GX_some, gdstO, none_md, none_fz, frz_nil, ownOp, wc_app, wcont_s, upd_app, ev_tmp, x_move, ↓reduceIte, Option.getD_some, Bool.not_false]
  cases h1 : eqLs a.pts b.pts
  · simp -implicitDefEqProofs only [awp_ret, seqQ_n, end_r, WW_one, WW_nil, WW_guardE, GX_some, gdstO, G1_tf, none_md, none_fz, frz_nil, ownOp, wc_app, wcont_s, upd_app, aput, ev_tmp, ev_const, av_bool, x_move, x_assign, x_pick, pick_f, ↓reduceIte, Nat.reduceEqDiff, Option.getD_some, Bool.not_false]
    exact ⟨by unfold eqV; rw [h1]; rfl, t.hx⟩
  simp -implicitDefEqProofs only [WW_guardE, GX_some, gdstO, G1_tt, none_md, none_fz, frz_nil, ownOp, wc_app, wcont_s, upd_app, ev_tmp, ev_func, x_load, x_fieldAddr, X1_call, callA_fn, holdsO_ofO, List.map_cons, List.map_nil, List.append_nil, ↓reduceIte, Nat.reduceEqDiff, Nat.zero_add, Option.getD_some, Bool.not_false, enP, fa28_1, lv1 t.ga, lv1 t.gb]
  refine (lists46_ref G _ _ _ _ _ ha.crs hb.eachC).use ?_
  simp -implicitDefEqProofs only [WW_one, WW_guardE, GX_some, gdstO, none_md, none_fz, frz_nil, ownOp, wc_app, wcont_s, upd_app, ev_tmp, ev_const, av_bool, x_move, x_pick, pick_t, ↓reduceIte, Nat.reduceEqDiff, Option.getD_some, Bool.not_false]
  cases h2 : eqLs a.crs b.crs
  · simp -implicitDefEqProofs only [awp_ret, seqQ_n, end_r, WW_one, WW_nil, WW_guardE, GX_some, gdstO, G1_tf, none_md, none_fz, frz_nil, ownOp, wc_app, wcont_s, upd_app, aput, ev_tmp, ev_const, av_bool, x_move, x_assign, x_pick, pick_f, ↓reduceIte, Nat.reduceEqDiff, Option.getD_some, Bool.not_false]
    exact ⟨by unfold eqV; rw [h1, h2]; rfl, t.hx⟩
  simp -implicitDefEqProofs only [WW_one, WW_guardE, GX_some, gdstO, G1_tt, none_md, none_fz, frz_nil, ownOp, wc_app, wcont_s, upd_app, ev_tmp, ev_const, av_bool, x_move, x_pick, pick_t, x_load, x_bin, x_fieldAddr, holdsO_ofO, bin_eql, ↓reduceIte, Nat.reduceEqDiff, Nat.zero_add, Option.getD_some, Bool.not_false, enP, fa28_2, lv2 t.ga, lv2 t.gb]
  cases h3 : (a.sam == b.sam)
  · simp -implicitDefEqProofs only [awp_ret, seqQ_n, end_r, WW_one, WW_nil, WW_guardE, GX_some, gdstO, G1_tf, none_md, none_fz, frz_nil, ownOp, wc_app, wcont_s, upd_app, aput, ev_tmp, ev_const, av_bool, x_assign, x_pick, pick_f, ↓reduceIte, Nat.reduceEqDiff, Option.getD_some, Bool.not_false]
    exact ⟨by unfold eqV; rw [h1, h2, h3]; rfl, t.hx⟩
  simp -implicitDefEqProofs only [awp_ret, seqQ_n, end_r, WW_one, WW_nil, WW_guardE, GX_some, gdstO, G1_tt, none_md, none_fz, frz_nil, ownOp, wc_app, wcont_s, upd_app, ev_tmp, ev_const, av_bool, x_assign, x_pick, pick_t, x_load, x_bin, x_fieldAddr, holdsO_ofO, bin_eql, ↓reduceIte, Nat.reduceEqDiff, Nat.zero_add, Option.getD_some, Bool.not_false, enP, fa28_3, lv3 t.ga, lv3 t.gb]
  exact ⟨by unfold eqV; rw [h1, h2, h3]; rfl, t.hx⟩
end Go.Proofs.YtocilianjfhifaaGreatDoor.Cov
/- Small things on heaps, results in cells, two lists that grow side by side; no condition. -/
namespace Go.Proofs.YtocilianjfhifaaGreatDoor.Cov
open Go Go.Proofs Go.Proofs.YtocilianjfhifaaGreatDoor.Sm Go.Proofs.YtocilianjfhifaaGreatDoor.Bins Go.RowKit

theorem end_c1 {P : Program} {a t : Nat} {R : AV → Hp → Prop} {F : Fr} {h : Hp} {x : AV} {b : Nat} (hF : F a = .ptr b 0 0) (h1 : aLoad P h t (.ptr b 0 0) = some x) : endQ P [.cell a t] R .ret F h = R x h := by simp [endQ, ares, ares1, hF, h1]
theorem end_c2 {P : Program} {a t b u : Nat} {R : AV → Hp → Prop} {F : Fr} {h : Hp} {x y : AV} {ba bb : Nat} (hF : F a = .ptr ba 0 0) (hG : F b = .ptr bb 0 0) (h1 : aLoad P h t (.ptr ba 0 0) = some x) (h2 : aLoad P h u (.ptr bb 0 0) = some y) : endQ P [.cell a t, .cell b u] R .ret F h = R (.tup [x, y]) h := by simp [endQ, ares, aresL, ares1, hF, hG, h1, h2]
theorem end_c2t {P : Program} {a t b u c : Nat} {R : AV → Hp → Prop} {F : Fr} {h : Hp} {x y : AV} {ba bb : Nat} (hF : F a = .ptr ba 0 0) (hG : F b = .ptr bb 0 0) (h1 : aLoad P h t (.ptr ba 0 0) = some x) (h2 : aLoad P h u (.ptr bb 0 0) = some y) : endQ P [.cell a t, .cell b u, .tmp c] R .ret F h = R (.tup [x, y, F c]) h := by simp [endQ, ares, aresL, ares1, hF, hG, h1, h2]
theorem end_c1t {P : Program} {a t c : Nat} {R : AV → Hp → Prop} {F : Fr} {h : Hp} {x : AV} {ba : Nat} (hF : F a = .ptr ba 0 0) (h1 : aLoad P h t (.ptr ba 0 0) = some x) : endQ P [.cell a t, .tmp c] R .ret F h = R (.tup [x, F c]) h := by simp [endQ, ares, aresL, ares1, hF, h1]
/-- what a growing list is frozen to -/
def fzG {α : Type} (k : Nat) (f : α → List AV) (ys : List α) : AV := match ys with
  | [] => .sl .nil 0 []
  | _ => .sl .any k (ys.map f)
theorem frz_outG {α : Type} {k : Nat} {f : α → List AV} {h H : Hp} {ys : List α} {v : AV} (hf : Frz f) (ho : outG k f h ys v H) (n d : Nat) (hn : n ≤ h.length) : frzF n H (d + 2) v = fzG k f ys := by
  rcases ho with ⟨rfl, rfl⟩ | ⟨hne, o, h2, rfl, h3⟩
  · rfl
  · rw [frz_own hf (Nat.le_trans hn h2) h3]
    cases ys with
    | nil => exact absurd rfl hne
    | cons _ _ => rfl
theorem fzG_cv {α : Type} {k : Nat} {f : α → List AV} {ys : List α} : CvR (fzG k f ys) (.sl (nm ys) k (ys.map f)) := by
  cases ys with
  | nil => exact CvR.sl (Cv.nil 0 k)
  | cons y ys => exact CvR.refl _
/-- appending, whatever lies below -/
theorem outG.app2 {P : Program} {t e : TypeId} {α : Type} {k bs : Nat} {f : α → List AV} {h H : Hp} {ys : List α} {v : AV} (ho : outG k f h ys v H) (hu : P.underlying t = some (.slice e)) (hs : szO P e = some k) (hz : zszO P e = some k) (hb : bytesO P e = some bs) (hbs : bs ≤ 4194304) (hl : ys.length < 8388608) (he : h.length ≤ H.length) (y : α) :
    ∃ v' H', aAppend P true H t t v (.sl .full k [f y]) = some (v', H') ∧ outG k f h (ys ++ [y]) v' H' ∧ (∀ b x, H[b]? = some x → ¬ isB v b → H'[b]? = some x) ∧ H'.length = H.length + 1 ∧ (∀ b, isB v' b → b = H.length) ∧ (∃ o l, v' = .own o 0 l) ∧ ∀ e : Hp, e.length ≤ h.length → ext e H → ext e H' := by
  have h1 : ([f y] : List (List AV)) ≠ [] := by simp
  rcases ho with ⟨rfl, rfl⟩ | ⟨hne, o, h2, rfl, h3⟩
  · exact ⟨_, _, app_nil hu hs hz hb (conts_sl H .full k [f y]) h1 (room_of (by simp) hbs), .inr ⟨by simp, H.length, he, rfl, by simp⟩, fun b x hb _ => below_getL hb, by simp, fun b hb => hb.symm, ⟨_, _, rfl⟩, fun e _ hx => hx.app _⟩
  · have hc : conts H (.own o 0 ys.length) = some (k, ys.map f) := by
      rw [conts_own h3 (by simp), List.drop_zero, List.take_of_length_le (by simp)]
    refine ⟨_, _, app_own hu hs hz hb hc (conts_sl H .full k [f y]) h1 (room_of (by simp; omega) hbs), .inr ⟨by simp, H.length, he, by simp, by simp⟩, fun b x hb hn => ?_, by simp, fun b hb => hb.symm, ⟨_, _, rfl⟩, fun e hl hx => (hx.set (Nat.le_trans hl h2) _).app _⟩
    have hn' : ¬ o = b := hn
    refine below_getL ?_
    rw [List.getElem?_set, if_neg hn']; exact hb
/-- a variable of one row is written -/
theorem st_at {P : Program} {H : Hp} {t b k j : Nat} {row cs : List AV} {v : AV} (hc : acells v = some cs) (hs : szO P t = some cs.length) (hb : H[b]? = some (.live k [row])) (hl : j + cs.length ≤ row.length) : aStore P H t (.ptr b 0 j) v = some (H.set b (.live k [splice row j cs])) := by
  rw [store_row (i := 0) hc hs hb rfl hl]; rfl
theorem mkF (h : Hp) (n : Nat) (hn : n ≤ 1048576) : aMakeSlice Tryz.prog false h 57 (.int .i64 (n : Int)) (.int .i64 (n : Int)) = some (.sl .full 1 ((zeros n).map encI), h) := by
  have hz : zeroRow Tryz.prog 3 = some [.int .i64 0] := by kernel_rfl
  have hr : room n 8 := room_of (by omega) (by omega)
  unfold aMakeSlice
  simp only [ud57, sz3, by57, hz, Int.toNat_natCast]
  rw [if_pos ⟨by omega, Int.le_refl _, hr, rfl⟩]
  simp [zeros, encI]
/-- a track -/
structure Tk where
  m : SM
  last : List Is
def encT (t : Tk) : List AV := [.sl t.m 1 (t.last.map encL)]
theorem encT_len (t : Tk) : (encT t).length = 1 := rfl
def zT : Tk := ⟨.nil, []⟩
def zV : Cvr := ⟨.nil, [], .nil, [], 0, 0⟩
def zLs (m : Mo) : List Is := m.pts.map fun _ => ⟨.nil, []⟩
def nilR : List AV := [.sl .nil 0 []]
theorem frzNil {α : Type} : Frz (fun _ : α => nilR) := fun _ _ _ _ => ⟨rfl, rfl⟩
theorem nilR_cv : CvRow nilR (encL ⟨.nil, []⟩) := CvRow.cons rfl (Cv.nil 0 1) CvRow.nil
theorem nils_cv {α : Type} {s : SM} (xs : List α) : Cv (.sl s 1 (xs.map fun _ => nilR)) (.sl s 1 ((xs.map fun _ => (⟨.nil, []⟩ : Is)).map encL)) := by
  rw [List.map_map]
  exact Cv.map fun _ _ => nilR_cv
theorem zV_cv : CvR (.agg [.sl .nil 0 [], .sl .nil 0 [], .int .i64 0, .int .i64 0]) (.agg (encV zV)) := CvR.agg (CvRL.cons (CvR.sl (Cv.nil 0 1)) (CvRL.cons (CvR.sl (Cv.nil 0 1)) (CvRL.cons (CvR.refl _) (CvRL.cons (CvR.refl _) CvRL.nil))))
theorem zT_cv : CvR (.agg [.sl .nil 0 []]) (.agg (encT zT)) := CvR.agg (CvRL.cons (CvR.sl (Cv.nil 0 1)) CvRL.nil)
def rowZ : List AV := [.sl .nil 0 [], .sl .nil 0 [], .int .i64 0, .int .i64 0]
theorem al28' (h : Hp) : aAlloc Tryz.prog h 28 = some (.ptr h.length 0 0, h ++ [.live 4 [rowZ]]) := alloc_of (row := rowZ) (by kernel_rfl)
theorem al47 (h : Hp) : aAlloc Tryz.prog h 47 = some (.ptr h.length 0 0, h ++ [.live 1 [nilR]]) := alloc_of (row := nilR) (by kernel_rfl)
theorem bd28z : aBuild Tryz.prog 28 [] = some (.agg rowZ) := by kernel_rfl
theorem bd47z : aBuild Tryz.prog 47 [] = some (.agg nilR) := by kernel_rfl
theorem stV {H : Hp} {b : Nat} {row : List AV} {v : Cvr} (hb : H[b]? = some (.live 4 [row])) (hr : row.length = 4) : aStore Tryz.prog H 28 (.ptr b 0 0) (.agg (encV v)) = some (H.set b (.live 4 [encV v])) := by
  rw [st_at (cs := encV v) rfl sz28 hb (by rw [hr]; exact Nat.le_refl 4)]
  have : splice row 0 (encV v) = encV v := by unfold splice; simp [encV_len, hr]
  rw [this]
theorem stZ {H : Hp} {b : Nat} {row : List AV} (hb : H[b]? = some (.live 4 [row])) (hr : row.length = 4) : aStore Tryz.prog H 28 (.ptr b 0 0) (.agg rowZ) = some (H.set b (.live 4 [rowZ])) := by
  rw [st_at (cs := rowZ) rfl sz28 hb (by rw [hr]; exact Nat.le_refl 4)]
  have : splice row 0 rowZ = rowZ := by unfold splice; simp [rowZ, hr]
  rw [this]
theorem stT {H : Hp} {b : Nat} {row : List AV} {t : Tk} (hb : H[b]? = some (.live 1 [row])) (hr : row.length = 1) : aStore Tryz.prog H 47 (.ptr b 0 0) (.agg (encT t)) = some (H.set b (.live 1 [encT t])) := by
  rw [st_at (cs := encT t) rfl sz47 hb (by rw [hr]; exact Nat.le_refl 1)]
  have : splice row 0 (encT t) = encT t := by unfold splice; rw [encT_len, List.take_zero, List.drop_eq_nil_of_le (by omega)]; simp
  rw [this]
theorem stNil {H : Hp} {b : Nat} {row : List AV} (hb : H[b]? = some (.live 1 [row])) (hr : row.length = 1) : aStore Tryz.prog H 47 (.ptr b 0 0) (.agg nilR) = some (H.set b (.live 1 [nilR])) := by
  rw [st_at (cs := nilR) rfl sz47 hb (by rw [hr]; exact Nat.le_refl 1)]
  have : splice row 0 nilR = nilR := by unfold splice; rw [List.take_zero, List.drop_eq_nil_of_le (by rw [hr]; exact Nat.le_refl 1)]; simp
  rw [this]
theorem ldT {h : Hp} {b : Nat} {t : Tk} (hb : h[b]? = some (.live 1 [encT t])) : aLoad Tryz.prog h 47 (.ptr b 0 0) = some (.agg (encT t)) := by
  rw [load_rowA ag47 sz47 hb rfl (by rw [encT_len]; exact Nat.le_refl 1)]; rfl
theorem ldRow28 {h : Hp} {b : Nat} {row : List AV} (hb : h[b]? = some (.live 4 [row])) (hr : row.length = 4) : aLoad Tryz.prog h 28 (.ptr b 0 0) = some (.agg row) := by
  rw [load_rowA ag28 sz28 hb rfl (by rw [hr]; exact Nat.le_refl 4), List.drop_zero, List.take_of_length_le (by omega)]
theorem ldRow47 {h : Hp} {b : Nat} {row : List AV} (hb : h[b]? = some (.live 1 [row])) (hr : row.length = 1) : aLoad Tryz.prog h 47 (.ptr b 0 0) = some (.agg row) := by
  rw [load_rowA ag47 sz47 hb rfl (by rw [hr]; exact Nat.le_refl 1), List.drop_zero, List.take_of_length_le (by omega)]
end Go.Proofs.YtocilianjfhifaaGreatDoor.Cov
/- Merging coverages: what Merge and All give, and what the measures say of sums; no condition. -/
namespace Go.Proofs.YtocilianjfhifaaGreatDoor.Cov
open Go Go.Proofs Go.Proofs.YtocilianjfhifaaGreatDoor.Sm Go.Proofs.YtocilianjfhifaaGreatDoor.Bins Go.RowKit

theorem prodN_pos {ns : List Nat} (h : ∀ n ∈ ns, 1 ≤ n) : 1 ≤ prodN ns := prodN_mono ns 0 h
/-- what fits is of moderate size -/
theorem fit2_ex {α : Type} {ok : α → Is → Bool} : ∀ {ws : List α} {xs : List Is}, fit2 ok ws xs = true → ∀ x ∈ xs, ∃ a ∈ ws, ok a x = true
  | [], [], _, x, hx => by cases hx
  | a :: ws, y :: xs, h, x, hx => by
    simp only [fit2, Bool.and_eq_true] at h
    rcases List.mem_cons.1 hx with rfl | hx
    · exact ⟨a, by simp, h.1⟩
    · obtain ⟨b, hb, hk⟩ := fit2_ex h.2 x hx
      exact ⟨b, by simp [hb], hk⟩
  | [], _ :: _, h, _, _ => by cases h
  | _ :: _, [], h, _, _ => by cases h
theorem rows_le {m : Mo} {v : Cvr} (h : fitsB m v = true) : v.pts.length = m.pts.length ∧ v.crs.length = m.crs.length ∧ (∀ x ∈ v.pts, 1 ≤ x.l.length ∧ x.l.length ≤ 64) ∧ (∀ x ∈ v.crs, 1 ≤ x.l.length ∧ x.l.length ≤ 256) := by
  have hg := good_of (fitsB_good h)
  rw [fitsB_iff] at h
  obtain ⟨_, h2, h3, _, _⟩ := h
  refine ⟨(fit2_len h2).symm, (fit2_len h3).symm, fun x hx => ?_, fun x hx => ?_⟩
  · obtain ⟨p, hp, hk⟩ := fit2_ex h2 x hx
    have := hg.full p hp
    rw [okP_len hk]; exact this
  · obtain ⟨c, hc, hk⟩ := fit2_ex h3 x hx
    have hcg := hg.crs c hc
    have hs := hg.full.szs hcg.here
    rw [okC_len hk]
    exact ⟨prodN_pos fun n hn => (hs n hn).1, hcg.prod⟩
theorem cvOk_fits {m : Mo} {v : Cvr} (h : fitsB m v = true) : CvOk v := by
  have hn := (good_of (fitsB_good h)).num
  obtain ⟨h1, h2, h3, h4⟩ := rows_le h
  exact ⟨by omega, by omega, fun x hx => by have := h3 x hx; omega, fun x hx => by have := h4 x hx; omega⟩
theorem sh2_of {α : Type} {ok : α → Is → Bool} {n : α → Nat} (hok : ∀ a x, ok a x = true → x.l.length = n a ∧ WL x.l) {ws : List α} {a b : List Is} (ha : fit2 ok ws a = true) (hb : fit2 ok ws b = true) (hr : ∀ x ∈ a, 1 ≤ x.l.length ∧ x.l.length ≤ 256) (hl : a.length ≤ 1048576) : Sh2 a b := by
  have h1 := fit2_len ha
  have h2 := fit2_len hb
  refine ⟨by omega, fun i hi hj => ?_, hl⟩
  have hw : i < ws.length := by omega
  obtain ⟨x, hx, kx⟩ := fit2_get ha i ws[i] (List.getElem?_eq_getElem hw)
  obtain ⟨y, hy, ky⟩ := fit2_get hb i ws[i] (List.getElem?_eq_getElem hw)
  rw [List.getElem?_eq_getElem hi] at hx
  rw [List.getElem?_eq_getElem hj] at hy
  cases hx; cases hy
  have q := hr _ (List.getElem_mem hi)
  refine ⟨by rw [(hok _ _ kx).1, (hok _ _ ky).1], fun e => ?_, (hok _ _ kx).2, (hok _ _ ky).2, by omega⟩
  rw [e] at q; simp at q
theorem sh2_pts {m : Mo} {a b : Cvr} (ha : fitsB m a = true) (hb : fitsB m b = true) : Sh2 a.pts b.pts := by
  have hr := rows_le ha
  have hn := (good_of (fitsB_good ha)).num
  exact sh2_of (n := fun p : Pt => p.bins.length) (fun _ _ h => ⟨okP_len h, okP_within h⟩) (fitsB_iff.1 ha).2.1 (fitsB_iff.1 hb).2.1 (fun x hx => by have := hr.2.2.1 x hx; omega) (by omega)
theorem sh2_crs {m : Mo} {a b : Cvr} (ha : fitsB m a = true) (hb : fitsB m b = true) : Sh2 a.crs b.crs := by
  have hr := rows_le ha
  have hn := (good_of (fitsB_good ha)).num
  exact sh2_of (n := fun c : Cr => prodN (szs m c.pts)) (fun _ _ h => ⟨okC_len h, okC_within h⟩) (fitsB_iff.1 ha).2.2.1 (fitsB_iff.1 hb).2.2.1 (fun x hx => hr.2.2.2 x hx) (by omega)
/-- what All gives -/
def allV (m : Mo) (l : List Cvr) : Cvr := l.foldl addV (emptyV m)
def allE (m : Mo) (l : List Cvr) : Int := if modelE m = 0 then (if l.all (fitsB m) = true then 0 else 1) else modelE m
def allR (m : Mo) (l : List Cvr) : Cvr := if allE m l = 0 then allV m l else zV
theorem allE_zero {m : Mo} {l : List Cvr} : allE m l = 0 ↔ modelE m = 0 ∧ ∀ v ∈ l, fitsB m v = true := by
  unfold allE
  split
  · rename_i h
    split
    · rename_i h2
      exact ⟨fun _ => ⟨h, List.all_eq_true.1 h2⟩, fun _ => rfl⟩
    · rename_i h2
      exact ⟨fun e => by omega, fun e => absurd (List.all_eq_true.2 e.2) h2⟩
  · rename_i h
    exact ⟨fun e => absurd e h, fun e => absurd e.1 h⟩
theorem fold_fits {m : Mo} : ∀ (l : List Cvr) (c : Cvr), fitsB m c = true → (∀ v ∈ l, fitsB m v = true) → fitsB m (l.foldl addV c) = true
  | [], _, h, _ => h
  | v :: l, c, h, hl => fold_fits l (addV c v) (fitsB_add h (hl v (by simp))) fun w hw => hl w (by simp [hw])
theorem allR_fits {m : Mo} {l : List Cvr} (h : allE m l = 0) : fitsB m (allR m l) = true := by
  have := allE_zero.1 h
  unfold allR
  rw [if_pos h]
  exact fold_fits l _ (fitsB_empty this.1) this.2
/-- what the reference's Merge gives -/
def mrgV (m : Mo) (a b : Cvr) : Cvr := if allE m [a, b] = 0 then addV a b else zV
theorem dat_two {m : Mo} {a b : Cvr} (h : allE m [a, b] = 0) : datV (allR m [a, b]) = addD (datV a) (datV b) := by
  have h1 := (allE_zero.1 h).2 a (by simp)
  unfold allR allV
  rw [if_pos h]
  simp only [List.foldl_cons, List.foldl_nil, datV_add, addD_zero h1]
theorem dat_three {m : Mo} {a b c : Cvr} (h : allE m [a, b, c] = 0) : datV (allR m [a, b, c]) = addD (addD (datV a) (datV b)) (datV c) := by
  have h1 := (allE_zero.1 h).2 a (by simp)
  unfold allR allV
  rw [if_pos h]
  simp only [List.foldl_cons, List.foldl_nil, datV_add, addD_zero h1]
theorem dat_mrg {m : Mo} {a b : Cvr} : datV (allR m [a, b]) = datV (mrgV m a b) := by
  unfold mrgV
  split
  · rename_i h; rw [dat_two h, datV_add]
  · rename_i h; unfold allR; rw [if_neg h]
theorem eqV_self (a : Cvr) : eqV a a = true := eqV_iff.2 rfl
theorem allE_two {m : Mo} {a b : Cvr} (ha : fitsB m a = true) (hb : fitsB m b = true) : allE m [a, b] = 0 := allE_zero.2 ⟨fitsB_good ha, fun v hv => by
  simp at hv; rcases hv with rfl | rfl <;> assumption⟩
theorem allE_three {m : Mo} {a b c : Cvr} (ha : fitsB m a = true) (hb : fitsB m b = true) (hc : fitsB m c = true) : allE m [a, b, c] = 0 := allE_zero.2 ⟨fitsB_good ha, fun v hv => by
  simp at hv; rcases hv with rfl | rfl | rfl <;> assumption⟩

/- counts of goals -/
end Go.Proofs.YtocilianjfhifaaGreatDoor.Cov
/- The coverage without samples: the program; no condition but the bounds on lengths. -/
set_option linter.unusedSimpArgs false
set_option maxRecDepth 8000
namespace Go.Proofs.YtocilianjfhifaaGreatDoor.Cov
open Go Go.Proofs Go.Proofs.YtocilianjfhifaaGreatDoor.Sm Go.Proofs.YtocilianjfhifaaGreatDoor.Bins Go.RowKit

theorem outG.setB {α : Type} {k : Nat} {f : α → List AV} {h H : Hp} {ys : List α} {v : AV} {b : Nat} (ho : outG k f h ys v H) (hb : b < h.length) (y : ABlk) : outG k f h ys v (H.set b y) :=
  ho.keep fun b' hb' => by
    have := ho.lt hb'
    rw [List.getElem?_set_ne (by omega)]
theorem outG.keepA {α : Type} {k : Nat} {f : α → List AV} {h H H' : Hp} {ys : List α} {v u : AV} (ho : outG k f h ys v H) (hk : ∀ b x, H[b]? = some x → ¬ isB u b → H'[b]? = some x) (hd : ∀ b, isB v b → ¬ isB u b) : outG k f h ys v H' := by
  rcases ho with h1 | ⟨h1, o, h2, rfl, h3⟩
  · exact .inl h1
  · exact .inr ⟨h1, o, h2, rfl, hk _ _ h3 (hd o rfl)⟩
theorem outG.leaf {α : Type} {k : Nat} {f : α → List AV} {h H : Hp} {ys : List α} {v : AV} (ho : outG k f h ys v H) : v.leaf = true := by
  rcases ho with ⟨_, rfl⟩ | ⟨_, o, _, rfl, _⟩ <;> rfl
theorem outG.base {α : Type} {k : Nat} {f : α → List AV} {h h' H : Hp} {ys : List α} {v : AV} (ho : outG k f h ys v H) (hl : h'.length ≤ h.length) : outG k f h' ys v H := by
  rcases ho with h1 | ⟨h1, o, h2, rfl, h3⟩
  · exact .inl h1
  · exact .inr ⟨h1, o, Nat.le_trans hl h2, rfl, h3⟩
def vRow (v1 v2 : AV) : List AV := [v1, v2, .int .i64 0, .int .i64 0]
structure Em (h H : Hp) (m : Mo) (b2 b3 b4 b5 : Nat) (v1 v2 v3 : AV) : Prop where
  gm : H[h.length]? = some (.live 2 [encM m])
  g2 : H[b2]? = some (.live 4 [rowZ])
  g3 : H[b3]? = some (.live 1 [nilR])
  g4 : H[b4]? = some (.live 4 [vRow v1 v2])
  g5 : H[b5]? = some (.live 1 [[v3]])
  o2 : h.length < b2
  o3 : b2 < b3
  o4 : b3 < b4
  o5 : b4 < b5
  hx : ext h H
section
variable {h H : Hp} {m : Mo} {b2 b3 b4 b5 : Nat} {v1 v2 v3 : AV} (E : Em h H m b2 b3 b4 b5 v1 v2 v3)
include E
theorem Em.m0 : aLoad Tryz.prog H 22 (.ptr h.length 0 0) = some (.sl m.pm 6 (m.pts.map encP)) := by rw [load_row ag22 E.gm (row := encM m) rfl, encM0]
theorem Em.m1 : aLoad Tryz.prog H 23 (.ptr h.length 0 1) = some (.sl m.cm 3 (m.crs.map encC)) := by rw [load_row ag23 E.gm (row := encM m) rfl, encM1]
theorem Em.l4 : aLoad Tryz.prog H 26 (.ptr b4 0 0) = some v1 := by rw [load_row ag26 E.g4 (row := vRow v1 v2) rfl]; rfl
theorem Em.l4' : aLoad Tryz.prog H 26 (.ptr b4 0 1) = some v2 := by rw [load_row ag26 E.g4 (row := vRow v1 v2) rfl]; rfl
theorem Em.l5 : aLoad Tryz.prog H 26 (.ptr b5 0 0) = some v3 := by rw [load_row ag26 E.g5 (row := [v3]) rfl]; rfl
theorem Em.app (x : Hp) : Em h (H ++ x) m b2 b3 b4 b5 v1 v2 v3 := ⟨below_getL E.gm, below_getL E.g2, below_getL E.g3, below_getL E.g4, below_getL E.g5, E.o2, E.o3, E.o4, E.o5, E.hx.app _⟩
theorem Em.keep {H' : Hp} {u : AV} (hk : ∀ b x, H[b]? = some x → ¬ isB u b → H'[b]? = some x) (hu : ∀ b, isB u b → b5 < b) (hx : ext h H → ext h H') : Em h H' m b2 b3 b4 b5 v1 v2 v3 := by
  have o2 := E.o2; have o3 := E.o3; have o4 := E.o4; have o5 := E.o5
  exact ⟨hk _ _ E.gm (fun e => by have := hu _ e; omega), hk _ _ E.g2 (fun e => by have := hu _ e; omega), hk _ _ E.g3 (fun e => by have := hu _ e; omega), hk _ _ E.g4 (fun e => by have := hu _ e; omega), hk _ _ E.g5 (fun e => by have := hu _ e; omega), o2, o3, o4, o5, hx E.hx⟩
theorem Em.set4 (w1 w2 : AV) : Em h (H.set b4 (.live 4 [vRow w1 w2])) m b2 b3 b4 b5 w1 w2 v3 := by
  have o2 := E.o2; have o3 := E.o3; have o4 := E.o4; have o5 := E.o5
  exact ⟨get_set_ne E.gm (by omega), get_set_ne E.g2 (by omega), get_set_ne E.g3 (by omega), get_set_eq E.g4, get_set_ne E.g5 (by omega), o2, o3, o4, o5, E.hx.set (by omega) _⟩
theorem Em.set5 (w3 : AV) : Em h (H.set b5 (.live 1 [[w3]])) m b2 b3 b4 b5 v1 v2 w3 := by
  have o2 := E.o2; have o3 := E.o3; have o4 := E.o4; have o5 := E.o5
  exact ⟨get_set_ne E.gm (by omega), get_set_ne E.g2 (by omega), get_set_ne E.g3 (by omega), get_set_ne E.g4 (by omega), get_set_eq E.g5, o2, o3, o4, o5, E.hx.set (by omega) _⟩
theorem Em.s4 {o l : Nat} : aStore Tryz.prog H 26 (.ptr b4 0 0) (.own o 0 l) = some (H.set b4 (.live 4 [vRow (.own o 0 l) v2])) := st_at (row := vRow v1 v2) (ac_own _ _ _) sz26 E.g4 (by simp [vRow])
theorem Em.s4' {o l : Nat} : aStore Tryz.prog H 26 (.ptr b4 0 1) (.own o 0 l) = some (H.set b4 (.live 4 [vRow v1 (.own o 0 l)])) := st_at (row := vRow v1 v2) (ac_own _ _ _) sz26 E.g4 (by simp [vRow])
theorem Em.s5 {o l : Nat} : aStore Tryz.prog H 26 (.ptr b5 0 0) (.own o 0 l) = some (H.set b5 (.live 1 [[.own o 0 l]])) := st_at (row := [v3]) (ac_own _ _ _) sz26 E.g5 (by simp)
theorem Em.lt : b5 < H.length := lt_of_getElem? E.g5
end
theorem Em.mk' (h : Hp) (m : Mo) : Em h (h ++ [ABlk.live 2 [encM m]] ++ [ABlk.live 4 [rowZ]] ++ [ABlk.live 1 [nilR]] ++ [ABlk.live 4 [rowZ]] ++ [ABlk.live 1 [nilR]]) m (h ++ [ABlk.live 2 [encM m]]).length (h ++ [ABlk.live 2 [encM m]] ++ [ABlk.live 4 [rowZ]]).length
    (h ++ [ABlk.live 2 [encM m]] ++ [ABlk.live 4 [rowZ]] ++ [ABlk.live 1 [nilR]]).length (h ++ [ABlk.live 2 [encM m]] ++ [ABlk.live 4 [rowZ]] ++ [ABlk.live 1 [nilR]] ++ [ABlk.live 4 [rowZ]]).length (.sl .nil 0 []) (.sl .nil 0 []) (.sl .nil 0 []) :=
  ⟨below_get (below_get (below_get (below_get (top_get _ _)))), below_get (below_get (below_get (top_get _ _))), below_get (below_get (top_get _ _)), below_get (top_get _ _), top_get _ _, by simp, by simp, by simp, by simp, ((((ext.rfl' h).app _).app _).app _).app _ |>.app _⟩
theorem bs26n (h : Hp) : aBuildSlice Tryz.prog false h 26 1 [(0, .sl .nil 0 [])] = some (.sl .full 1 [nilR], h) := by kernel_rfl
theorem zPs_take (m : Mo) (i : Nat) (hi : i < m.pts.length) : (zPs m).take (i + 1) = (zPs m).take i ++ [zIs m.pts[i].bins.length] := by
  have hl : i < (zPs m).length := by unfold zPs; simpa using hi
  rw [List.take_succ_eq_append_getElem hl]; simp [zPs]
theorem zCs_take (m : Mo) (i : Nat) (hi : i < m.crs.length) : (zCs m).take (i + 1) = (zCs m).take i ++ [zIs (prodN (szs m m.crs[i].pts))] := by
  have hl : i < (zCs m).length := by unfold zCs; simpa using hi
  rw [List.take_succ_eq_append_getElem hl]; simp [zCs]
theorem zPs_len (m : Mo) : (zPs m).length = m.pts.length := by simp [zPs]
theorem zCs_len (m : Mo) : (zCs m).length = m.crs.length := by simp [zCs]
/-- what an empty coverage and track are frozen to -/
theorem empty_pure {E : Env} {f : FuncId} {args : List AV} {h : Hp} {m : Mo} (hc : ACalls E f args h fun v H => ext h H ∧ ∃ v1 v2 v3, v = .tup [.agg (vRow v1 v2), .agg [v3]] ∧ outG 1 encL h (zPs m) v1 H ∧ outG 1 encL h (zCs m) v2 H ∧ outG 1 (fun _ : Pt => nilR) h m.pts v3 H) :
    PCall E f args h (.tup [.agg (encV (emptyV m)), .agg (encT ⟨nm (zLs m), zLs m⟩)]) := by
  have hp : PCall E f args h (.tup [.agg (vRow (fzG 1 encL (zPs m)) (fzG 1 encL (zCs m))), .agg [fzG 1 (fun _ : Pt => nilR) m.pts]]) := by
    refine ACalls.pure 4 hc ?_
    rintro v H ⟨he, v1, v2, v3, rfl, o1, o2, o3⟩
    refine ⟨he, ?_⟩
    have e1 := frz_outG frzL o1 h.length 0 (Nat.le_refl _)
    have e2 := frz_outG frzL o2 h.length 0 (Nat.le_refl _)
    have e3 := frz_outG frzNil o3 h.length 0 (Nat.le_refl _)
    show AV.tup [.agg [frzF h.length H 2 v1, frzF h.length H 2 v2, .int .i64 0, .int .i64 0], .agg [frzF h.length H 2 v3]] = _
    rw [e1, e2, e3]; rfl
  refine hp.res (CvR.tup (CvRL.cons (CvR.agg (CvRL.cons fzG_cv (CvRL.cons fzG_cv (CvRL.refl _)))) (CvRL.cons (CvR.agg (CvRL.cons ?_ CvRL.nil)) CvRL.nil)))
  have h1 : CvR (fzG 1 (fun _ : Pt => nilR) m.pts) (.sl (nm m.pts) 1 (m.pts.map fun _ => nilR)) := fzG_cv
  have h2 := CvR.sl (nils_cv (s := nm m.pts) m.pts)
  have h3 : nm (zLs m) = nm m.pts := by unfold zLs; cases m.pts <;> rfl
  intro g cv hr
  have := h2 g cv (h1 g cv hr)
  rw [h3]; exact this
theorem st28v {H : Hp} {b : Nat} {row : List AV} {v1 v2 : AV} (hb : H[b]? = some (.live 4 [row])) (hr : row.length = 4) (h1 : v1.leaf = true) (h2 : v2.leaf = true) : aStore Tryz.prog H 28 (.ptr b 0 0) (.agg (vRow v1 v2)) = some (H.set b (.live 4 [vRow v1 v2])) := by
  rw [st_at (cs := vRow v1 v2) (ac_agg (by simp [vRow, h1, h2]; rfl)) sz28 hb (by rw [hr]; exact Nat.le_refl 4)]
  have : splice row 0 (vRow v1 v2) = vRow v1 v2 := by unfold splice; rw [List.take_zero, List.drop_eq_nil_of_le (by rw [hr]; exact Nat.le_refl 4)]; simp
  rw [this]
theorem st47v {H : Hp} {b : Nat} {row : List AV} {v3 : AV} (hb : H[b]? = some (.live 1 [row])) (hr : row.length = 1) (h3 : v3.leaf = true) : aStore Tryz.prog H 47 (.ptr b 0 0) (.agg [v3]) = some (H.set b (.live 1 [[v3]])) := by
  rw [st_at (cs := [v3]) (ac_agg (by simp [h3])) sz47 hb (by rw [hr]; exact Nat.le_refl 1)]
  have : splice row 0 [v3] = [v3] := by unfold splice; rw [List.take_zero, List.drop_eq_nil_of_le (by rw [hr]; exact Nat.le_refl 1)]; simp
  rw [this]
set_option maxHeartbeats 2000000 in
theorem empty_prog (G : Nat → AV) (m : Mo) (hm : MoOk m) (hg : Good m) (h : Hp) : PCall (En G) 127 [.agg (encM m)] h (.tup [.agg (encV (emptyV m)), .agg (encT ⟨nm (zLs m), zLs m⟩)]) := by
  refine empty_pure ?_
  have hm1 := hm.np
  have hm2 := hm.nc
  have hnum := hg.num
  refine acalls_of (H := hint [24, 47] []) (enM G) Tryz.func127 rfl (by kernel_rfl) (by kernel_rfl) (Nat.le_of_ble_eq_true (by kernel_rfl)) ?_
  show awp _ _ _ _ _ (endQ _ [.cell 2 28, .cell 3 47] _)
  have E := Em.mk' h m
  simp -implicitDefEqProofs only [hint_md, List.contains_cons, List.contains_nil, Nat.reduceBEq, Bool.or_false, awp_seq, awp_reg, seqQ_n, WW_one, WW_nil, frz_nil, ownOp, wc_app, wcont_s, upd_app, ev_tmp, x_alloc, x_box, x_load, x_fieldAddr, holdsO_some, holdsO_ofO, frameOf_zero, ↓reduceIte, Nat.reduceEqDiff, Nat.add_zero, Option.getD_some, Bool.not_false, enP, fa25_0, hint_fz0, bxM, al28', al47]
  generalize h ++ [ABlk.live 2 [encM m]] ++ [ABlk.live 4 [rowZ]] ++ [ABlk.live 1 [nilR]] ++ [ABlk.live 4 [rowZ]] ++ [ABlk.live 1 [nilR]] = H0 at E ⊢
  generalize (h ++ [ABlk.live 2 [encM m]] ++ [ABlk.live 4 [rowZ]] ++ [ABlk.live 1 [nilR]] ++ [ABlk.live 4 [rowZ]]).length = b5 at E ⊢
  generalize (h ++ [ABlk.live 2 [encM m]] ++ [ABlk.live 4 [rowZ]] ++ [ABlk.live 1 [nilR]]).length = b4 at E ⊢
  generalize (h ++ [ABlk.live 2 [encM m]] ++ [ABlk.live 4 [rowZ]]).length = b3 at E ⊢
  generalize (h ++ [ABlk.live 2 [encM m]]).length = b2 at E ⊢
  have o2 := E.o2; have o3 := E.o3; have o4 := E.o4; have o5 := E.o5
  have hlt0 := E.lt
  simp -implicitDefEqProofs only [hint_md, List.contains_cons, List.contains_nil, Nat.reduceBEq, Bool.or_false, awp_block, seqQ_n, WW_one, WW_nil, frz_nil, ownOp, wc_app, wcont_s, upd_app, ev_tmp, ev_const, av_int, x_move, x_len, holdsO_ofO, ↓reduceIte, Option.getD_some, Bool.not_false, enP, ln22, hint_fz0, E.m0, List.length_map]
  refine awp_lp 0 (fun F H => ∃ v1 v3, F 1 = .ptr h.length 0 0 ∧ F 2 = .ptr b2 0 0 ∧ F 3 = .ptr b3 0 0 ∧ F 4 = .ptr b4 0 0 ∧ F 5 = .ptr b5 0 0 ∧ Em h H m b2 b3 b4 b5 v1 (.sl .nil 0 []) v3 ∧ outG 1 encL H0 (zPs m) v1 H ∧ outG 1 (fun _ : Pt => nilR) H0 m.pts v3 H ∧ (∀ b, isB v1 b → ¬ isB v3 b) ∧ H0.length ≤ H.length) (fun _ _ => False) ?_ ?_ (fun _ _ hh => hh.elim)
  · refine awp_loop (fun n F H => ∃ i v1 v3, n + i = m.pts.length ∧ F 1 = .ptr h.length 0 0 ∧ F 2 = .ptr b2 0 0 ∧ F 3 = .ptr b3 0 0 ∧ F 4 = .ptr b4 0 0 ∧ F 5 = .ptr b5 0 0 ∧ F 11 = .sl m.pm 6 (m.pts.map encP) ∧ F 12 = .int .i64 m.pts.length ∧ F 13 = .int .i64 (i : Nat) ∧ Em h H m b2 b3 b4 b5 v1 (.sl .nil 0 []) v3 ∧ outG 1 encL H0 ((zPs m).take i) v1 H ∧ outG 1 (fun _ : Pt => nilR) H0 (m.pts.take i) v3 H ∧ (∀ b, isB v1 b → ¬ isB v3 b) ∧ H0.length ≤ H.length) m.pts.length
      ⟨0, _, _, by simp, by simp -implicitDefEqProofs only [upd_app, ↓reduceIte, Nat.reduceEqDiff], by simp -implicitDefEqProofs only [upd_app, ↓reduceIte, Nat.reduceEqDiff], by simp -implicitDefEqProofs only [upd_app, ↓reduceIte, Nat.reduceEqDiff], by simp -implicitDefEqProofs only [upd_app, ↓reduceIte, Nat.reduceEqDiff], by simp -implicitDefEqProofs only [upd_app, ↓reduceIte, Nat.reduceEqDiff], by simp -implicitDefEqProofs only [upd_app, ↓reduceIte, Nat.reduceEqDiff], by simp -implicitDefEqProofs only [upd_app, ↓reduceIte, Nat.reduceEqDiff], by simp -implicitDefEqProofs only [upd_app, ↓reduceIte]; rfl, E, by rw [List.take_zero]; exact outG.nil _ _ _ _, by rw [List.take_zero]; exact outG.nil _ _ _ _, fun b hb => hb.elim, Nat.le_refl _⟩ ?_
    clear E
    rintro n F H ⟨i, v1, v3, hi, f1, f2, f3, f4, f5, f11, f12, f13, E, ho1, ho3, hdis, hle⟩
    simp -implicitDefEqProofs only [hint_md, List.contains_cons, List.contains_nil, Nat.reduceBEq, Bool.or_false, awp_seq, awp_reg, awp_cond, seqQ_n, WW_one, WW_nil, frz_nil, ownOp, wc_app, wcont_s, upd_app, ev_tmp, x_bin, holdsO_ofO, bin_lss, ↓reduceIte, Option.getD_some, Bool.not_false, enP, hint_fz0, f12, f13]
    refine cond_of (fun hc => ?_) (fun hc => ?_)
    · have hi' : i < m.pts.length := by simpa using hc
      have h64 := (hg.full _ (List.getElem_mem hi')).2
      have hP := zPs_take m i hi'
      simp -implicitDefEqProofs only [hint_md, List.contains_cons, List.contains_nil, Nat.reduceBEq, Bool.or_false, awp_seq, awp_block, awp_reg, awp_skip, seqQ_n, WW_one, WW_nil, frz_nil, ownOp, wc_app, wcont_s, wcont_n, upd_app, ev_tmp, x_alloc, x_load, x_store, x_indexAddr, holdsO_some, holdsO_ofO, holdsO_ofS, ↓reduceIte, Nat.reduceEqDiff, Option.getD_some, Bool.not_false, enP, ix22, hint_fz0, Option.getD_none, f11, f13, ix_map hi', load_mapA ag56 sz56 encP_len hi', al75, st75 _ _ [.str ⟨#[]⟩, .int .i64 0, .int .i64 0, .str ⟨#[]⟩, .sl .nil 0 [], .sl .nil 0 []] rfl]
      have E1 := E.app [.live 6 [encP m.pts[i]]]
      obtain ⟨v1', H2, hap, ho1', hk1, hl2, hn1, ⟨o, l, rfl⟩, hx2⟩ := (ho1.app [.live 6 [encP m.pts[i]]]).app2 ud26 sz57 zs26 by26 (by omega) (by rw [List.length_take, zPs_len]; omega) (by simp; omega) (zIs m.pts[i].bins.length)
      rw [← hP] at ho1'
      have E2 := E1.keep hk1 (fun b hb => by have := ho1.lt hb; omega) (hx2 h (by omega))
      have E3 := E2.set4 (.own o 0 l) (.sl .nil 0 [])
      have ho3' := ((ho3.app [.live 6 [encP m.pts[i]]]).keepA hk1 (fun b hb h1 => hdis b h1 hb)).setB (b := b4) (by omega) (.live 4 [vRow (.own o 0 l) (.sl .nil 0 [])])
      have ho1'' := ho1'.setB (b := b4) (by omega) (.live 4 [vRow (.own o 0 l) (.sl .nil 0 [])])
      have hdis' : ∀ b, isB (.own o 0 l) b → ¬ isB v3 b := fun b hb h3 => by
        have h1 := hn1 b hb
        have h2 := ho3.lt h3
        simp at h1; omega
      refine awp_draw (by kernel_rfl) ?_
      simp -implicitDefEqProofs only [YO_f, evp_nil, evp_cons, hint_md, List.contains_cons, List.contains_nil, Nat.reduceBEq, Bool.or_false, dc_app, dcont_s, DD_one, y_buildSlice, y_load, y_makeSlice, y_fieldAddr, y_builtin, upd_app, ev_tmp, x_buildSlice, x_load, x_makeSlice, x_fieldAddr, x_len, x_append, holdsO_some, holdsO_ofO, ↓reduceIte, Nat.reduceEqDiff, Nat.reduceAdd, Nat.add_zero, Nat.zero_add, Option.getD_some, enP, fa28_0, ln54, fa56_2, f4, E1.l4, load_last ag54, encP5, List.length_map, mkF _ _ (show m.pts[i].bins.length ≤ 1048576 by omega), bs26a]
      refine holdsO_of (v := .own o 0 l) (h := H2) hap ?_
      simp -implicitDefEqProofs only [YO_f, hint_md, List.contains_cons, List.contains_nil, Nat.reduceBEq, Bool.or_false, dc_app, dcont_s, dcont_n, DD_nil, DD_one, y_store, y_fieldAddr, awp_reg, seqQ_n, WW_one, frz_nil, ownOp, wc_app, wcont_s, upd_app, ev_tmp, x_load, x_store, x_fieldAddr, holdsO_ofO, holdsO_ofS, ↓reduceIte, Nat.reduceEqDiff, Nat.reduceAdd, Nat.add_zero, Nat.zero_add, Option.getD_some, Bool.not_false, enP, fa28_0, fa47_0, hint_fz0, Option.getD_none, f4, f5, E2.s4]
      have hl3 : (H2.set b4 (.live 4 [vRow (.own o 0 l) (.sl .nil 0 [])])).length = H.length + 2 := by rw [List.length_set, hl2, List.length_append]; rfl
      generalize H2.set b4 (.live 4 [vRow (.own o 0 l) (.sl .nil 0 [])]) = H3 at E3 ho3' ho1'' hl3 ⊢
      obtain ⟨v3', H4, hap3, ho3'', hk3, hl4, hn3, ⟨o3', l3, rfl⟩, hx4⟩ := ho3'.app2 ud26 sz57 zs26 by26 (by omega) (by rw [List.length_take]; omega) (by omega) m.pts[i]
      rw [← List.take_succ_eq_append_getElem hi'] at ho3''
      have E4 := E3.keep hk3 (fun b hb => by have := ho3'.lt hb; omega) (hx4 h (by omega))
      have E5 := E4.set5 (.own o3' 0 l3)
      have ho1f := (ho1''.keepA hk3 hdis').setB (b := b5) (by omega) (.live 1 [[.own o3' 0 l3]])
      have ho3f := ho3''.setB (b := b5) (by omega) (.live 1 [[.own o3' 0 l3]])
      simp -implicitDefEqProofs only [evp_nil, evp_cons, hint_md, List.contains_cons, List.contains_nil, Nat.reduceBEq, Bool.or_false, WW_one, frz_nil, ownOp, wc_app, wcont_s, upd_app, ev_tmp, ev_const, av_nil, x_buildSlice, x_append, holdsO_some, holdsO_ofO, ↓reduceIte, Nat.reduceEqDiff, Option.getD_some, Bool.not_false, enP, hint_fz0, E3.l5, bs26n]
      refine holdsO_of (v := .own o3' 0 l3) (h := H4) hap3 ?_
      simp -implicitDefEqProofs only [hint_md, List.contains_cons, List.contains_nil, Nat.reduceBEq, Bool.or_false, awp_reg, seqQ_n, blk_n, rnd_n, WW_one, WW_nil, frz_nil, ownOp, wc_app, wcont_s, wcont_n, upd_app, ev_tmp, ev_const, av_int, x_move, x_store, x_bin, x_fieldAddr, holdsO_ofO, holdsO_ofS, bin_add, ↓reduceIte, Nat.reduceEqDiff, Nat.add_zero, Option.getD_some, Bool.not_false, enP, fa47_0, hint_fz0, Option.getD_none, f5, E4.s5, f13, wrap_succ (show i < 9223372036854775807 by omega)]
      refine ⟨n - 1, by omega, i + 1, .own o 0 l, .own o3' 0 l3, by omega, f1, f2, f3, f4, trivial, f11, f12, rfl, E5, ho1f, ho3f, fun b hb h3 => ?_, ?_⟩
      · have h1 := hn1 b hb
        have h2 := hn3 b h3
        rw [List.length_append] at h1
        simp at h1; omega
      · rw [List.length_set]; omega
    · have hi' : ¬ i < m.pts.length := by simpa using hc
      rw [List.take_of_length_le (by rw [zPs_len]; omega)] at ho1
      rw [List.take_of_length_le (by omega)] at ho3
      simp -implicitDefEqProofs only [awp_exit, seqQ_e, lp_e, rnd_e, upd_app, ↓reduceIte, Nat.reduceEqDiff]
      exact ⟨v1, v3, f1, f2, f3, f4, f5, E, ho1, ho3, hdis, hle⟩
  · rintro F H ⟨v1, v3, f1, f2, f3, f4, f5, E, ho1, ho3, hdis, hle⟩
    simp -implicitDefEqProofs only [hint_md, List.contains_cons, List.contains_nil, Nat.reduceBEq, Bool.or_false, awp_seq, awp_block, awp_reg, seqQ_n, blk_e, WW_one, WW_nil, frz_nil, ownOp, wc_app, wcont_s, upd_app, ev_tmp, ev_const, av_int, x_move, x_load, x_fieldAddr, x_len, holdsO_ofO, ↓reduceIte, Nat.zero_add, Option.getD_some, Bool.not_false, enP, ln23, fa25_1, hint_fz0, f1, E.m1, List.length_map]
    refine awp_lp 2 (fun F H => ∃ v2, F 2 = .ptr b2 0 0 ∧ F 3 = .ptr b3 0 0 ∧ F 4 = .ptr b4 0 0 ∧ F 5 = .ptr b5 0 0 ∧ Em h H m b2 b3 b4 b5 v1 v2 v3 ∧ outG 1 encL H0 (zPs m) v1 H ∧ outG 1 encL H0 (zCs m) v2 H ∧ outG 1 (fun _ : Pt => nilR) H0 m.pts v3 H) (fun _ _ => False) ?_ ?_ (fun _ _ hh => hh.elim)
    · refine awp_loop (fun n F H => ∃ i v2, n + i = m.crs.length ∧ F 1 = .ptr h.length 0 0 ∧ F 2 = .ptr b2 0 0 ∧ F 3 = .ptr b3 0 0 ∧ F 4 = .ptr b4 0 0 ∧ F 5 = .ptr b5 0 0 ∧ F 33 = .sl m.cm 3 (m.crs.map encC) ∧ F 34 = .int .i64 m.crs.length ∧ F 35 = .int .i64 (i : Nat) ∧ Em h H m b2 b3 b4 b5 v1 v2 v3 ∧ outG 1 encL H0 (zPs m) v1 H ∧ outG 1 encL H0 ((zCs m).take i) v2 H ∧ outG 1 (fun _ : Pt => nilR) H0 m.pts v3 H ∧ (∀ b, isB v2 b → ¬ isB v1 b ∧ ¬ isB v3 b) ∧ H0.length ≤ H.length) m.crs.length
        ⟨0, _, by simp, by simp -implicitDefEqProofs only [upd_app, ↓reduceIte, Nat.reduceEqDiff, f1], by simp -implicitDefEqProofs only [upd_app, ↓reduceIte, Nat.reduceEqDiff, f2], by simp -implicitDefEqProofs only [upd_app, ↓reduceIte, Nat.reduceEqDiff, f3], by simp -implicitDefEqProofs only [upd_app, ↓reduceIte, Nat.reduceEqDiff, f4], by simp -implicitDefEqProofs only [upd_app, ↓reduceIte, Nat.reduceEqDiff, f5], by simp -implicitDefEqProofs only [upd_app, ↓reduceIte, Nat.reduceEqDiff], by simp -implicitDefEqProofs only [upd_app, ↓reduceIte, Nat.reduceEqDiff], by simp -implicitDefEqProofs only [upd_app, ↓reduceIte]; rfl, E, ho1, by rw [List.take_zero]; exact outG.nil _ _ _ _, ho3, fun b hb => hb.elim, hle⟩ ?_
      clear f1 f2 f3 f4 f5 E ho1 ho3 hle
      rintro n F H ⟨i, v2, hi, f1, f2, f3, f4, f5, f33, f34, f35, E, ho1, ho2, ho3, hd2, hle⟩
      simp -implicitDefEqProofs only [hint_md, List.contains_cons, List.contains_nil, Nat.reduceBEq, Bool.or_false, awp_seq, awp_reg, awp_cond, seqQ_n, WW_one, WW_nil, frz_nil, ownOp, wc_app, wcont_s, upd_app, ev_tmp, x_bin, holdsO_ofO, bin_lss, ↓reduceIte, Option.getD_some, Bool.not_false, enP, hint_fz0, f34, f35]
      refine cond_of (fun hc => ?_) (fun hc => ?_)
      · have hi' : i < m.crs.length := by simpa using hc
        have hcg := hg.crs _ (List.getElem_mem hi')
        have hfs := hg.full.szs hcg.here
        have hsl := szs_len m m.crs[i].pts
        have hfour := hcg.four
        have hpr := hcg.prod
        have hC := zCs_take m i hi'
        have E1 := E.app [.live 3 [encC m.crs[i]]]
        have gc1 := top_get H (.live 3 [encC m.crs[i]])
        obtain ⟨v2', H2, hap, ho2', hk2, hl2, hn2, ⟨o, l, rfl⟩, hx2⟩ := (ho2.app [.live 3 [encC m.crs[i]]]).app2 ud26 sz57 zs26 by26 (by omega) (by rw [List.length_take, zCs_len]; omega) (by simp; omega) (zIs (prodN (szs m m.crs[i].pts)))
        rw [← hC] at ho2'
        have E2 := E1.keep hk2 (fun b hb => by have := ho2.lt hb; omega) (hx2 h (by omega))
        have E3 := E2.set4 v1 (.own o 0 l)
        have ho1' := ((ho1.app [.live 3 [encC m.crs[i]]]).keepA hk2 (fun b hb h2 => (hd2 b h2).1 hb)).setB (b := b4) (by omega) (.live 4 [vRow v1 (.own o 0 l)])
        have ho3' := ((ho3.app [.live 3 [encC m.crs[i]]]).keepA hk2 (fun b hb h2 => (hd2 b h2).2 hb)).setB (b := b4) (by omega) (.live 4 [vRow v1 (.own o 0 l)])
        have ho2'' := ho2'.setB (b := b4) (by omega) (.live 4 [vRow v1 (.own o 0 l)])
        simp -implicitDefEqProofs only [hint_md, List.contains_cons, List.contains_nil, Nat.reduceBEq, Bool.or_false, awp_seq, awp_block, awp_reg, awp_skip, seqQ_n, WW_one, WW_nil, frz_nil, ownOp, wc_app, wcont_s, wcont_n, upd_app, ev_tmp, x_alloc, x_load, x_store, x_indexAddr, holdsO_some, holdsO_ofO, holdsO_ofS, ↓reduceIte, Nat.reduceEqDiff, Option.getD_some, Bool.not_false, enP, ix23, hint_fz0, Option.getD_none, f33, f35, ix_map hi', load_mapA ag71 sz71 encC_len hi', al82, st82 _ _ [.str ⟨#[]⟩, .sl .nil 0 [], .sl .nil 0 []] rfl]
        refine awp_draw (by kernel_rfl) ?_
        simp -implicitDefEqProofs only [YO_f, hint_md, List.contains_cons, List.contains_nil, Nat.reduceBEq, Bool.or_false, dc_app, dcont_s, DD_one, y_load, y_makeSlice, y_fieldAddr, Y1_call, callP_fn, upd_app, ev_tmp, ev_func, x_load, x_makeSlice, x_fieldAddr, holdsO_ofO, List.map_cons, List.map_nil, List.append_nil, ↓reduceIte, Nat.reduceEqDiff, Nat.reduceAdd, Nat.zero_add, Option.getD_some, enP, fa28_1, f1, f4, E1.l4', ldM E1.gm, ldC gc1]
        refine ⟨_, sizes_prog G m _ _ hcg.here (by omega), ?_⟩
        try simp -implicitDefEqProofs only []
        refine ⟨_, product_prog G _ _ _ (fun n hn => (hfs n hn).2) (by omega), ?_⟩
        try simp -implicitDefEqProofs only [YO_f, evp_nil, evp_cons, hint_md, List.contains_cons, List.contains_nil, Nat.reduceBEq, Bool.or_false, Bool.or_true, dc_app, dcont_s, DD_one, y_buildSlice, y_builtin, upd_app, ev_tmp, x_buildSlice, x_append, holdsO_some, ↓reduceIte, Nat.reduceEqDiff, Nat.reduceAdd, Option.getD_some, enP, mkF _ _ (show prodN (szs m m.crs[i].pts) ≤ 1048576 by omega), bs26a]
        refine holdsO_of (v := .own o 0 l) (h := H2) hap ?_
        simp -implicitDefEqProofs only [YO_f, hint_md, List.contains_cons, List.contains_nil, Nat.reduceBEq, Bool.or_false, dc_app, dcont_s, dcont_n, DD_nil, DD_one, y_store, y_fieldAddr, awp_reg, seqQ_n, blk_n, rnd_n, WW_one, WW_nil, frz_nil, ownOp, wc_app, wcont_s, upd_app, ev_tmp, ev_const, av_int, x_move, x_store, x_bin, x_fieldAddr, holdsO_ofO, holdsO_ofS, bin_add, ↓reduceIte, Nat.reduceEqDiff, Nat.reduceAdd, Nat.zero_add, Option.getD_some, Bool.not_false, enP, fa28_1, hint_fz0, Option.getD_none, f4, E2.s4', f35, wrap_succ (show i < 9223372036854775807 by omega)]
        refine ⟨n - 1, by omega, i + 1, .own o 0 l, by omega, f1, f2, f3, trivial, f5, f33, f34, rfl, E3, ho1', ho2'', ho3', fun b hb => ⟨fun h1 => ?_, fun h3 => ?_⟩, ?_⟩
        · have h0 := hn2 b hb
          have h2 := ho1.lt h1
          rw [List.length_append] at h0
          simp at h0; omega
        · have h0 := hn2 b hb
          have h2 := ho3.lt h3
          rw [List.length_append] at h0
          simp at h0; omega
        · rw [List.length_set, hl2, List.length_append]; simp; omega
      · have hi' : ¬ i < m.crs.length := by simpa using hc
        rw [List.take_of_length_le (by rw [zCs_len]; omega)] at ho2
        simp -implicitDefEqProofs only [awp_exit, seqQ_e, lp_e, rnd_e, upd_app, ↓reduceIte, Nat.reduceEqDiff]
        exact ⟨v2, f2, f3, f4, f5, E, ho1, ho2, ho3⟩
    · rintro F' H' ⟨v2, g2, g3, g4, g5, E', q1, q2, q3⟩
      simp -implicitDefEqProofs only [awp_seq, seqQ_n, blk_e, ↓reduceIte]
      have p2 := E'.o2; have p3 := E'.o3; have p4 := E'.o4; have p5 := E'.o5
      refine awp_drawS [(5, 2)] (by kernel_rfl) ?_ ?_
      · simp -implicitDefEqProofs only [g2, g5, SepF_cons, SepF_nil, sepV_ptr, and_true]
        omega
      simp -implicitDefEqProofs only [YO_f, hint_md, List.contains_cons, List.contains_nil, Nat.reduceBEq, Bool.or_false, dc_app, dcont_s, dcont_n, DD_nil, DD_one, y_load, y_store, awp_ret, seqQ_n, upd_app, ev_tmp, x_load, x_store, holdsO_ofO, holdsO_ofS, ↓reduceIte, Nat.reduceEqDiff, Nat.reduceAdd, Nat.zero_add, Option.getD_some, enP, Option.getD_none, g2, g3, g4, g5, ldRow28 E'.g4 rfl, ldRow47 E'.g5 rfl, st28v E'.g2 rfl q1.leaf q2.leaf, st47v (get_set_ne E'.g3 (show b3 ≠ b2 by omega)) rfl q3.leaf]
      rw [end_c2 (ba := b2) (bb := b3) (by simp -implicitDefEqProofs only [upd_app, ↓reduceIte, Nat.reduceEqDiff, g2]) (by simp -implicitDefEqProofs only [upd_app, ↓reduceIte, Nat.reduceEqDiff, g3]) (ldRow28 (get_set_ne (get_set_eq E'.g2) (show b2 ≠ b3 by omega)) rfl) (ldRow47 (get_set_eq (get_set_ne E'.g3 (show b3 ≠ b2 by omega))) rfl)]
      have hs1 : ∀ {α : Type} {f : α → List AV} {ys : List α} {v : AV}, outG 1 f H0 ys v H' → outG 1 f h ys v ((H'.set b2 (.live 4 [vRow v1 v2])).set b3 (.live 1 [[v3]])) := fun q => ((q.setB (b := b2) (by omega) _).setB (b := b3) (by omega) _).base (by omega)
      exact ⟨(E'.hx.set (by omega) _).set (by omega) _, v1, v2, v3, rfl, hs1 q1, hs1 q2, hs1 q3⟩
end Go.Proofs.YtocilianjfhifaaGreatDoor.Cov
/- The coverage without samples: the reference; no condition but the bounds on lengths. -/
set_option linter.unusedSimpArgs false
set_option maxRecDepth 8000
namespace Go.Proofs.YtocilianjfhifaaGreatDoor.Cov
open Go Go.Proofs Go.Proofs.YtocilianjfhifaaGreatDoor.Sm Go.Proofs.YtocilianjfhifaaGreatDoor.Bins Go.RowKit

structure Er (h H : Hp) (m : Mo) (b2 b3 : Nat) (v1 v2 : AV) : Prop where
  gm : H[h.length]? = some (.live 2 [encM m])
  g2 : H[b2]? = some (.live 4 [rowZ])
  g3 : H[b3]? = some (.live 4 [vRow v1 v2])
  o2 : h.length < b2
  o3 : b2 < b3
  hx : ext h H
section
variable {h H : Hp} {m : Mo} {b2 b3 : Nat} {v1 v2 : AV} (E : Er h H m b2 b3 v1 v2)
include E
theorem Er.m0 : aLoad Tryz.prog H 22 (.ptr h.length 0 0) = some (.sl m.pm 6 (m.pts.map encP)) := by rw [load_row ag22 E.gm (row := encM m) rfl, encM0]
theorem Er.m1 : aLoad Tryz.prog H 23 (.ptr h.length 0 1) = some (.sl m.cm 3 (m.crs.map encC)) := by rw [load_row ag23 E.gm (row := encM m) rfl, encM1]
theorem Er.l3 : aLoad Tryz.prog H 26 (.ptr b3 0 0) = some v1 := by rw [load_row ag26 E.g3 (row := vRow v1 v2) rfl]; rfl
theorem Er.l3' : aLoad Tryz.prog H 26 (.ptr b3 0 1) = some v2 := by rw [load_row ag26 E.g3 (row := vRow v1 v2) rfl]; rfl
theorem Er.keep {H' : Hp} {u : AV} (hk : ∀ b x, H[b]? = some x → ¬ isB u b → H'[b]? = some x) (hu : ∀ b, isB u b → b3 < b) (hx : ext h H → ext h H') : Er h H' m b2 b3 v1 v2 := by
  have o2 := E.o2; have o3 := E.o3
  exact ⟨hk _ _ E.gm (fun e => by have := hu _ e; omega), hk _ _ E.g2 (fun e => by have := hu _ e; omega), hk _ _ E.g3 (fun e => by have := hu _ e; omega), o2, o3, hx E.hx⟩
theorem Er.set3 (w1 w2 : AV) : Er h (H.set b3 (.live 4 [vRow w1 w2])) m b2 b3 w1 w2 := by
  have o2 := E.o2; have o3 := E.o3
  exact ⟨get_set_ne E.gm (by omega), get_set_ne E.g2 (by omega), get_set_eq E.g3, o2, o3, E.hx.set (by omega) _⟩
theorem Er.s3 {o l : Nat} : aStore Tryz.prog H 26 (.ptr b3 0 0) (.own o 0 l) = some (H.set b3 (.live 4 [vRow (.own o 0 l) v2])) := st_at (row := vRow v1 v2) (ac_own _ _ _) sz26 E.g3 (by simp [vRow])
theorem Er.s3' {o l : Nat} : aStore Tryz.prog H 26 (.ptr b3 0 1) (.own o 0 l) = some (H.set b3 (.live 4 [vRow v1 (.own o 0 l)])) := st_at (row := vRow v1 v2) (ac_own _ _ _) sz26 E.g3 (by simp [vRow])
theorem Er.lt : b3 < H.length := lt_of_getElem? E.g3
end
theorem Er.mk' (h : Hp) (m : Mo) : Er h (h ++ [ABlk.live 2 [encM m]] ++ [ABlk.live 4 [rowZ]] ++ [ABlk.live 4 [rowZ]]) m (h ++ [ABlk.live 2 [encM m]]).length (h ++ [ABlk.live 2 [encM m]] ++ [ABlk.live 4 [rowZ]]).length (.sl .nil 0 []) (.sl .nil 0 []) :=
  ⟨below_get (below_get (top_get _ _)), below_get (top_get _ _), top_get _ _, by simp, by simp, (((ext.rfl' h).app _).app _).app _⟩
theorem stZtop (h : Hp) : aStore Tryz.prog (h ++ [.live 4 [rowZ]]) 28 (.ptr h.length 0 0) (.agg rowZ) = some (h ++ [.live 4 [rowZ]]) := by rw [stZ (top_get _ _) rfl, set_top]
/-- what an empty coverage is frozen to -/
theorem empty_pure1 {E : Env} {f : FuncId} {args : List AV} {h : Hp} {m : Mo} (hc : ACalls E f args h fun v H => ext h H ∧ ∃ v1 v2, v = .agg (vRow v1 v2) ∧ outG 1 encL h (zPs m) v1 H ∧ outG 1 encL h (zCs m) v2 H) :
    PCall E f args h (.agg (encV (emptyV m))) := by
  have hp : PCall E f args h (.agg (vRow (fzG 1 encL (zPs m)) (fzG 1 encL (zCs m)))) := by
    refine ACalls.pure 3 hc ?_
    rintro v H ⟨he, v1, v2, rfl, o1, o2⟩
    refine ⟨he, ?_⟩
    have e1 := frz_outG frzL o1 h.length 0 (Nat.le_refl _)
    have e2 := frz_outG frzL o2 h.length 0 (Nat.le_refl _)
    show AV.agg [frzF h.length H 2 v1, frzF h.length H 2 v2, .int .i64 0, .int .i64 0] = _
    rw [e1, e2]; rfl
  exact hp.res (CvR.agg (CvRL.cons fzG_cv (CvRL.cons fzG_cv (CvRL.refl _))))
set_option maxHeartbeats 2000000 in
theorem empty_ref (G : Nat → AV) (m : Mo) (hm : MoOk m) (hg : Good m) (h : Hp) : PCall (En G) 92 [.agg (encM m)] h (.agg (encV (emptyV m))) := by
  refine empty_pure1 ?_
  have hm1 := hm.np
  have hm2 := hm.nc
  have hnum := hg.num
  refine acalls_of (H := hint [25, 45] []) (enM G) Tryz.func92 rfl (by kernel_rfl) (by kernel_rfl) (Nat.le_of_ble_eq_true (by kernel_rfl)) ?_
  show awp _ _ _ _ _ (endQ _ [.cell 2 28] _)
  have E := Er.mk' h m
  simp -implicitDefEqProofs only [evp_nil, hint_md, List.contains_cons, List.contains_nil, Nat.reduceBEq, Bool.or_false, awp_seq, awp_block, awp_reg, seqQ_n, WW_one, WW_nil, frz_nil, ownOp, wc_app, wcont_s, wcont_n, upd_app, ev_tmp, ev_const, av_int, x_assign, x_alloc, x_box, x_build, x_store, holdsO_some, holdsO_ofO, holdsO_ofS, frameOf_zero, ↓reduceIte, Nat.reduceEqDiff, Option.getD_some, Bool.not_false, enP, hint_fz0, Option.getD_none, bxM, al28', bd28z, stZtop]
  generalize h ++ [ABlk.live 2 [encM m]] ++ [ABlk.live 4 [rowZ]] ++ [ABlk.live 4 [rowZ]] = H0 at E ⊢
  generalize (h ++ [ABlk.live 2 [encM m]] ++ [ABlk.live 4 [rowZ]]).length = b3 at E ⊢
  generalize (h ++ [ABlk.live 2 [encM m]]).length = b2 at E ⊢
  have o2 := E.o2; have o3 := E.o3
  have hlt0 := E.lt
  refine awp_lp 0 (fun F H => ∃ v1, F 1 = .ptr h.length 0 0 ∧ F 2 = .ptr b2 0 0 ∧ F 3 = .ptr b3 0 0 ∧ Er h H m b2 b3 v1 (.sl .nil 0 []) ∧ outG 1 encL H0 (zPs m) v1 H ∧ H0.length ≤ H.length) (fun _ _ => False) ?_ ?_ (fun _ _ hh => hh.elim)
  · refine awp_loop (fun n F H => ∃ i v1, n + i = m.pts.length ∧ F 1 = .ptr h.length 0 0 ∧ F 2 = .ptr b2 0 0 ∧ F 3 = .ptr b3 0 0 ∧ F 4 = .int .i64 (i : Nat) ∧ Er h H m b2 b3 v1 (.sl .nil 0 []) ∧ outG 1 encL H0 ((zPs m).take i) v1 H ∧ H0.length ≤ H.length) m.pts.length
      ⟨0, _, by simp, by simp -implicitDefEqProofs only [upd_app, ↓reduceIte, Nat.reduceEqDiff], by simp -implicitDefEqProofs only [upd_app, ↓reduceIte, Nat.reduceEqDiff], by simp -implicitDefEqProofs only [upd_app, ↓reduceIte, Nat.reduceEqDiff], by simp -implicitDefEqProofs only [upd_app, ↓reduceIte]; rfl, E, by rw [List.take_zero]; exact outG.nil _ _ _ _, Nat.le_refl _⟩ ?_
    clear E
    rintro n F H ⟨i, v1, hi, f1, f2, f3, f4, E, ho1, hle⟩
    simp -implicitDefEqProofs only [hint_md, List.contains_cons, List.contains_nil, Nat.reduceBEq, Bool.or_false, awp_seq, awp_reg, awp_cond, seqQ_n, WW_one, WW_nil, frz_nil, ownOp, wc_app, wcont_s, upd_app, ev_tmp, x_move, x_load, x_bin, x_fieldAddr, x_len, holdsO_ofO, bin_lss, ↓reduceIte, Nat.reduceEqDiff, Nat.add_zero, Option.getD_some, Bool.not_false, enP, ln22, fa25_0, hint_fz0, f1, f4, E.m0, List.length_map]
    refine cond_of (fun hc => ?_) (fun hc => ?_)
    · have hi' : i < m.pts.length := by simpa using hc
      have h64 := (hg.full _ (List.getElem_mem hi')).2
      have hP := zPs_take m i hi'
      have hH := E.lt
      obtain ⟨v1', H2, hap, ho1', hk1, hl2, hn1, ⟨o, l, rfl⟩, hx2⟩ := ho1.app2 ud26 sz57 zs26 by26 (by omega) (by rw [List.length_take, zPs_len]; omega) hle (zIs m.pts[i].bins.length)
      rw [← hP] at ho1'
      have E2 := E.keep hk1 (fun b hb => by have := ho1.lt hb; omega) (hx2 h (by omega))
      have E3 := E2.set3 (.own o 0 l) (.sl .nil 0 [])
      have ho1'' := ho1'.setB (b := b3) (by omega) (.live 4 [vRow (.own o 0 l) (.sl .nil 0 [])])
      simp -implicitDefEqProofs only [awp_seq, awp_block, awp_skip, seqQ_n]
      refine awp_draw (by kernel_rfl) ?_
      simp -implicitDefEqProofs only [YO_f, evp_nil, evp_cons, hint_md, List.contains_cons, List.contains_nil, Nat.reduceBEq, Bool.or_false, dc_app, dcont_s, DD_one, y_move, y_buildSlice, y_load, y_makeSlice, y_fieldAddr, y_indexAddr, y_builtin, upd_app, ev_tmp, x_buildSlice, x_load, x_makeSlice, x_fieldAddr, x_indexAddr, x_len, x_append, holdsO_some, holdsO_ofO, ↓reduceIte, Nat.reduceEqDiff, Nat.reduceAdd, Nat.add_zero, Nat.zero_add, Option.getD_some, enP, ix22, fa25_0, fa28_0, ln54, fa56_2, f1, f3, f4, E.l3, E.m0, ix_map hi', load_map ag54 hi', encP5, List.length_map, mkF _ _ (show m.pts[i].bins.length ≤ 1048576 by omega), bs26a]
      refine holdsO_of (v := .own o 0 l) (h := H2) hap ?_
      simp -implicitDefEqProofs only [YO_f, hint_md, List.contains_cons, List.contains_nil, Nat.reduceBEq, Bool.or_false, dc_app, dcont_s, dcont_n, DD_nil, DD_one, y_store, y_fieldAddr, awp_reg, seqQ_n, blk_n, rnd_n, WW_one, WW_nil, frz_nil, ownOp, wc_app, wcont_s, upd_app, ev_tmp, ev_const, av_int, x_move, x_assign, x_store, x_bin, x_fieldAddr, holdsO_ofO, holdsO_ofS, bin_add, ↓reduceIte, Nat.reduceEqDiff, Nat.reduceAdd, Nat.add_zero, Nat.zero_add, Option.getD_some, Bool.not_false, enP, fa28_0, hint_fz0, Option.getD_none, f3, E2.s3, f4, wrap_succ (show i < 9223372036854775807 by omega)]
      exact ⟨n - 1, by omega, i + 1, .own o 0 l, by omega, f1, f2, trivial, rfl, E3, ho1'', by rw [List.length_set]; omega⟩
    · have hi' : ¬ i < m.pts.length := by simpa using hc
      rw [List.take_of_length_le (by rw [zPs_len]; omega)] at ho1
      simp -implicitDefEqProofs only [awp_exit, seqQ_e, lp_e, rnd_e, upd_app, ↓reduceIte, Nat.reduceEqDiff]
      exact ⟨v1, f1, f2, f3, E, ho1, hle⟩
  · rintro F H ⟨v1, f1, f2, f3, E, ho1, hle⟩
    simp -implicitDefEqProofs only [hint_md, List.contains_cons, List.contains_nil, Nat.reduceBEq, Bool.or_false, awp_seq, awp_block, awp_reg, seqQ_n, blk_e, WW_one, WW_nil, frz_nil, ownOp, wc_app, wcont_s, ev_const, av_int, x_assign, ↓reduceIte, Option.getD_some, Bool.not_false, hint_fz0]
    refine awp_lp 2 (fun F H => ∃ v2, F 2 = .ptr b2 0 0 ∧ F 3 = .ptr b3 0 0 ∧ Er h H m b2 b3 v1 v2 ∧ outG 1 encL H0 (zPs m) v1 H ∧ outG 1 encL H0 (zCs m) v2 H) (fun _ _ => False) ?_ ?_ (fun _ _ hh => hh.elim)
    · refine awp_loop (fun n F H => ∃ i v2, n + i = m.crs.length ∧ F 1 = .ptr h.length 0 0 ∧ F 2 = .ptr b2 0 0 ∧ F 3 = .ptr b3 0 0 ∧ F 5 = .int .i64 (i : Nat) ∧ Er h H m b2 b3 v1 v2 ∧ outG 1 encL H0 (zPs m) v1 H ∧ outG 1 encL H0 ((zCs m).take i) v2 H ∧ (∀ b, isB v2 b → ¬ isB v1 b) ∧ H0.length ≤ H.length) m.crs.length
        ⟨0, _, by simp, by simp -implicitDefEqProofs only [upd_app, ↓reduceIte, Nat.reduceEqDiff, f1], by simp -implicitDefEqProofs only [upd_app, ↓reduceIte, Nat.reduceEqDiff, f2], by simp -implicitDefEqProofs only [upd_app, ↓reduceIte, Nat.reduceEqDiff, f3], by simp -implicitDefEqProofs only [upd_app, ↓reduceIte]; rfl, E, ho1, by rw [List.take_zero]; exact outG.nil _ _ _ _, fun b hb => hb.elim, hle⟩ ?_
      clear f1 f2 f3 E ho1 hle
      rintro n F H ⟨i, v2, hi, f1, f2, f3, f5, E, ho1, ho2, hd2, hle⟩
      simp -implicitDefEqProofs only [hint_md, List.contains_cons, List.contains_nil, Nat.reduceBEq, Bool.or_false, awp_seq, awp_reg, awp_cond, seqQ_n, WW_one, WW_nil, frz_nil, ownOp, wc_app, wcont_s, upd_app, ev_tmp, x_move, x_load, x_bin, x_fieldAddr, x_len, holdsO_ofO, bin_lss, ↓reduceIte, Nat.reduceEqDiff, Nat.zero_add, Option.getD_some, Bool.not_false, enP, ln23, fa25_1, hint_fz0, f1, f5, E.m1, List.length_map]
      refine cond_of (fun hc => ?_) (fun hc => ?_)
      · have hi' : i < m.crs.length := by simpa using hc
        have hcg := hg.crs _ (List.getElem_mem hi')
        have hpr := hcg.prod
        have hfour := hcg.four
        have hmin : min ((prodN (szs m m.crs[i].pts) : Nat) : Int) 1000 = ((prodN (szs m m.crs[i].pts) : Nat) : Int) := by omega
        have hcall := csize_ref G m m.crs[i] H hcg.here hg.full (by omega)
        rw [hmin] at hcall
        have hC := zCs_take m i hi'
        have hH := E.lt
        obtain ⟨v2', H2, hap, ho2', hk2, hl2, hn2, ⟨o, l, rfl⟩, hx2⟩ := ho2.app2 ud26 sz57 zs26 by26 (by omega) (by rw [List.length_take, zCs_len]; omega) hle (zIs (prodN (szs m m.crs[i].pts)))
        rw [← hC] at ho2'
        have E2 := E.keep hk2 (fun b hb => by have := ho2.lt hb; omega) (hx2 h (by omega))
        have E3 := E2.set3 v1 (.own o 0 l)
        have ho1' := (ho1.keepA hk2 (fun b hb h2 => hd2 b h2 hb)).setB (b := b3) (by omega) (.live 4 [vRow v1 (.own o 0 l)])
        have ho2'' := ho2'.setB (b := b3) (by omega) (.live 4 [vRow v1 (.own o 0 l)])
        simp -implicitDefEqProofs only [awp_seq, awp_block, awp_skip, seqQ_n]
        refine awp_draw (by kernel_rfl) ?_
        simp -implicitDefEqProofs only [YO_f, hint_md, List.contains_cons, List.contains_nil, Nat.reduceBEq, Bool.or_false, dc_app, dcont_s, DD_one, y_move, y_load, y_makeSlice, y_fieldAddr, y_indexAddr, Y1_call, callP_fn, upd_app, ev_tmp, ev_func, x_load, x_makeSlice, x_fieldAddr, x_indexAddr, holdsO_ofO, List.map_cons, List.map_nil, List.append_nil, ↓reduceIte, Nat.reduceEqDiff, Nat.reduceAdd, Nat.zero_add, Option.getD_some, enP, ix23, fa25_1, fa28_1, f1, f3, f5, E.l3', E.m1, ldM E.gm, ix_map hi', load_mapA ag71 sz71 encC_len hi']
        refine ⟨_, hcall, ?_⟩
        try simp -implicitDefEqProofs only [YO_f, evp_nil, evp_cons, hint_md, List.contains_cons, List.contains_nil, Nat.reduceBEq, Bool.or_false, Bool.or_true, dc_app, dcont_s, DD_one, y_buildSlice, y_builtin, upd_app, ev_tmp, x_buildSlice, x_append, holdsO_some, ↓reduceIte, Nat.reduceEqDiff, Nat.reduceAdd, Option.getD_some, enP, mkF _ _ (show prodN (szs m m.crs[i].pts) ≤ 1048576 by omega), bs26a]
        refine holdsO_of (v := .own o 0 l) (h := H2) hap ?_
        simp -implicitDefEqProofs only [YO_f, hint_md, List.contains_cons, List.contains_nil, Nat.reduceBEq, Bool.or_false, dc_app, dcont_s, dcont_n, DD_nil, DD_one, y_store, y_fieldAddr, awp_reg, seqQ_n, blk_n, rnd_n, WW_one, WW_nil, frz_nil, ownOp, wc_app, wcont_s, upd_app, ev_tmp, ev_const, av_int, x_move, x_assign, x_store, x_bin, x_fieldAddr, holdsO_ofO, holdsO_ofS, bin_add, ↓reduceIte, Nat.reduceEqDiff, Nat.reduceAdd, Nat.zero_add, Option.getD_some, Bool.not_false, enP, fa28_1, hint_fz0, Option.getD_none, f3, E2.s3', f5, wrap_succ (show i < 9223372036854775807 by omega)]
        refine ⟨n - 1, by omega, i + 1, .own o 0 l, by omega, f1, f2, trivial, rfl, E3, ho1', ho2'', fun b hb h1 => ?_, by rw [List.length_set]; omega⟩
        have h0 := hn2 b hb
        have h2 := ho1.lt h1
        omega
      · have hi' : ¬ i < m.crs.length := by simpa using hc
        rw [List.take_of_length_le (by rw [zCs_len]; omega)] at ho2
        simp -implicitDefEqProofs only [awp_exit, seqQ_e, lp_e, rnd_e, upd_app, ↓reduceIte, Nat.reduceEqDiff]
        exact ⟨v2, f2, f3, E, ho1, ho2⟩
    · rintro F' H' ⟨v2, g2, g3, E', q1, q2⟩
      have hp := E'.o2; have hq := E'.o3
      simp -implicitDefEqProofs only [hint_md, List.contains_cons, List.contains_nil, Nat.reduceBEq, Bool.or_false, awp_seq, awp_reg, awp_ret, seqQ_n, blk_e, WW_one, WW_nil, frz_nil, ownOp, wc_app, wcont_s, wcont_n, upd_app, ev_tmp, x_load, x_store, holdsO_ofO, holdsO_ofS, ↓reduceIte, Nat.reduceEqDiff, Option.getD_some, Bool.not_false, enP, hint_fz0, Option.getD_none, g2, g3, ldRow28 E'.g3 rfl, st28v E'.g2 rfl q1.leaf q2.leaf]
      rw [end_c1 (b := b2) (by simp -implicitDefEqProofs only [upd_app, ↓reduceIte, Nat.reduceEqDiff, g2]) (ldRow28 (get_set_eq E'.g2) rfl)]
      have hs1 : ∀ {α : Type} {f : α → List AV} {ys : List α} {v : AV}, outG 1 f H0 ys v H' → outG 1 f h ys v (H'.set b2 (.live 4 [vRow v1 v2])) := fun q => (q.setB (b := b2) (by omega) _).base (by omega)
      exact ⟨E'.hx.set (by omega) _, v1, v2, rfl, hs1 q1, hs1 q2⟩
end Go.Proofs.YtocilianjfhifaaGreatDoor.Cov
/- Empty of both sides; no condition but the variables that are laid and the bounds on lengths. -/
set_option linter.unusedSimpArgs false
set_option maxRecDepth 8000
namespace Go.Proofs.YtocilianjfhifaaGreatDoor.Cov
open Go Go.Proofs Go.Proofs.YtocilianjfhifaaGreatDoor.Sm Go.Proofs.YtocilianjfhifaaGreatDoor.Bins Go.RowKit

theorem pureT {E : Env} {f : FuncId} {args : List AV} {h : Hp} {r : AV} (d : Nat) (hr : ∀ n H, frzF n H d r = r) (hc : ACalls E f args h fun v H => v = r ∧ ext h H) : PCall E f args h r :=
  ACalls.pure d hc fun v H ⟨e, he⟩ => ⟨he, by rw [e]; exact hr _ _⟩
def emV (m : Mo) : Cvr := if modelE m = 0 then emptyV m else zV
def emT (m : Mo) : Tk := if modelE m = 0 then ⟨nm (zLs m), zLs m⟩ else zT
def emTr (m : Mo) : Tk := if modelE m = 0 then ⟨.full, zLs m⟩ else zT
structure Ee (h H : Hp) (m : Mo) (b2 b3 : Nat) : Prop where
  gm : H[h.length]? = some (ABlk.live 2 [encM m])
  g2 : H[b2]? = some (ABlk.live 4 [rowZ])
  g3 : H[b3]? = some (ABlk.live 1 [nilR])
  o2 : h.length < b2
  o3 : b2 < b3
  hx : ext h H
theorem Ee.mk' (h : Hp) (m : Mo) : Ee h (h ++ [ABlk.live 2 [encM m]] ++ [ABlk.live 4 [rowZ]] ++ [ABlk.live 1 [nilR]]) m (h ++ [ABlk.live 2 [encM m]]).length (h ++ [ABlk.live 2 [encM m]] ++ [ABlk.live 4 [rowZ]]).length :=
  ⟨below_get (below_get (top_get _ _)), below_get (top_get _ _), top_get _ _, by simp, by simp, (((ext.rfl' h).app _).app _).app _⟩
theorem Ee.lt {h H : Hp} {m : Mo} {b2 b3 : Nat} (E : Ee h H m b2 b3) : b3 < H.length := lt_of_getElem? E.g3
theorem Ee.m0 {h H : Hp} {m : Mo} {b2 b3 : Nat} (E : Ee h H m b2 b3) : aLoad Tryz.prog H 22 (.ptr h.length 0 0) = some (.sl m.pm 6 (m.pts.map encP)) := by rw [load_row ag22 E.gm (row := encM m) rfl, encM0]
/-- what is laid of an Empty's results, above what was -/
theorem lay0 (H0 : Hp) (c : Cvr) (t : Tk) :
    aStore Tryz.prog (H0 ++ [ABlk.live 4 [rowZ]] ++ [ABlk.live 1 [nilR]]) 28 (.ptr H0.length 0 0) (.agg (encV c)) = some ((H0 ++ [ABlk.live 4 [rowZ]] ++ [ABlk.live 1 [nilR]]).set H0.length (ABlk.live 4 [encV c])) ∧
    aStore Tryz.prog ((H0 ++ [ABlk.live 4 [rowZ]] ++ [ABlk.live 1 [nilR]]).set H0.length (ABlk.live 4 [encV c])) 47 (.ptr (H0 ++ [ABlk.live 4 [rowZ]]).length 0 0) (.agg (encT t)) = some (((H0 ++ [ABlk.live 4 [rowZ]] ++ [ABlk.live 1 [nilR]]).set H0.length (ABlk.live 4 [encV c])).set (H0 ++ [ABlk.live 4 [rowZ]]).length (ABlk.live 1 [encT t])) ∧
    (((H0 ++ [ABlk.live 4 [rowZ]] ++ [ABlk.live 1 [nilR]]).set H0.length (ABlk.live 4 [encV c])).set (H0 ++ [ABlk.live 4 [rowZ]]).length (ABlk.live 1 [encT t]))[H0.length]? = some (ABlk.live 4 [encV c]) ∧
    (((H0 ++ [ABlk.live 4 [rowZ]] ++ [ABlk.live 1 [nilR]]).set H0.length (ABlk.live 4 [encV c])).set (H0 ++ [ABlk.live 4 [rowZ]]).length (ABlk.live 1 [encT t]))[(H0 ++ [ABlk.live 4 [rowZ]]).length]? = some (ABlk.live 1 [encT t]) ∧
    ext H0 (((H0 ++ [ABlk.live 4 [rowZ]] ++ [ABlk.live 1 [nilR]]).set H0.length (ABlk.live 4 [encV c])).set (H0 ++ [ABlk.live 4 [rowZ]]).length (ABlk.live 1 [encT t])) :=
  ⟨stV (below_get (top_get _ _)) rfl, stT (get_set_ne (top_get _ _) (by simp)) rfl, get_set_ne (get_set_eq (below_get (top_get _ _))) (by simp), get_set_eq (get_set_ne (top_get _ _) (by simp)), ((((ext.rfl' H0).app _).app _).set (Nat.le_refl _) _).set (by simp) _⟩
theorem ext_getL {h H : Hp} {b : Nat} {x : ABlk} (he : ext h H) (hb : h[b]? = some x) : H[b]? = some x := by
  obtain ⟨y, rfl⟩ := he
  exact below_getL hb
theorem err_cv (e : Int) : CvR (.tup [.agg rowZ, .agg nilR, .int .i64 e]) (.tup [.agg (encV zV), .agg (encT zT), .int .i64 e]) := CvR.tup (CvRL.cons zV_cv (CvRL.cons zT_cv (CvRL.refl _)))
set_option maxHeartbeats 1000000 in
theorem Empty_prog (G : Nat → AV) (hG : GOk G) (m : Mo) (hm : MoOk m) (h : Hp) : PCall (En G) 67 [.agg (encM m)] h (.tup [.agg (encV (emV m)), .agg (encT (emT m)), .int .i64 (modelE m)]) := by
  by_cases h0 : modelE m = 0
  · have hb : (modelE m == 0) = true := by simpa using h0
    unfold emV emT
    rw [if_pos h0, if_pos h0]
    have hg := good_of h0
    refine pureT 3 (fun n H => rfl) ?_
    refine acalls_of (H := Hint.none) (enM G) Tryz.func67 rfl (by kernel_rfl) (by kernel_rfl) (Nat.le_of_ble_eq_true (by kernel_rfl)) ?_
    show awp _ _ _ _ _ (endQ _ [.cell 2 28, .cell 3 47, .tmp 4] _)
    have E := Ee.mk' h m
    simp -implicitDefEqProofs only [awp_seq, awp_reg, seqQ_n, WW_one, WW_nil, none_md, none_fz, frz_nil, ownOp, wc_app, wcont_s, upd_app, ev_tmp, ev_const, av_int, x_assign, x_alloc, x_box, x_load, holdsO_some, frameOf_zero, ↓reduceIte, Nat.reduceEqDiff, Option.getD_some, Bool.not_false, enP, bxM, al28', al47]
    generalize h ++ [ABlk.live 2 [encM m]] ++ [ABlk.live 4 [rowZ]] ++ [ABlk.live 1 [nilR]] = H0 at E ⊢
    generalize (h ++ [ABlk.live 2 [encM m]] ++ [ABlk.live 4 [rowZ]]).length = b3 at E ⊢
    generalize (h ++ [ABlk.live 2 [encM m]]).length = b2 at E ⊢
    have o2 := E.o2; have o3 := E.o3; have hlt := E.lt
    simp -implicitDefEqProofs only [WW_one, none_md, none_fz, frz_nil, ownOp, wc_app, wcont_s, upd_app, ev_tmp, ev_func, X1_call, callA_fn, holdsO_ofO, List.map_cons, List.map_nil, List.append_nil, ↓reduceIte, Option.getD_some, Bool.not_false, ldM E.gm]
    refine (model_prog G hG m hm _).use ?_
    simp -implicitDefEqProofs only [awp_seq, awp_reg, awp_skip, awp_cond, seqQ_n, cond_f, WW_one, WW_nil, none_md, none_fz, frz_nil, ownOp, wc_app, wcont_s, upd_app, ev_tmp, ev_const, ev_func, av_int, x_move, x_assign, x_load, x_bin, X1_call, callA_fn, holdsO_ofO, bin_neq, List.map_cons, List.map_nil, List.append_nil, ↓reduceIte, Nat.reduceEqDiff, Option.getD_some, Bool.not_true, Bool.not_false, enP, bne, hb, ldM E.gm]
    refine (empty_prog G m hm hg _).use ?_
    obtain ⟨s1, s2, g6, g7, hx5⟩ := lay0 H0 (emptyV m) ⟨nm (zLs m), zLs m⟩
    have g2 := ext_getL hx5 E.g2
    have g3 := ext_getL hx5 E.g3
    have hx := E.hx.trans hx5
    have h7 : b2 < (H0 ++ [ABlk.live 4 [rowZ]]).length := by simp; omega
    simp -implicitDefEqProofs only [List.getElem?_cons_zero, List.getElem?_cons_succ, awp_seq, seqQ_n, WW_one, WW_nil, none_md, none_fz, frz_nil, ownOp, wc_app, wcont_s, wcont_n, upd_app, ev_tmp, x_move, x_alloc, x_store, x_extract, ext_tup, holdsO_some, holdsO_ofO, holdsO_ofS, ↓reduceIte, Nat.reduceEqDiff, Option.getD_some, Bool.not_false, enP, Option.getD_none, al28', al47, s1, s2]
    generalize ((H0 ++ [ABlk.live 4 [rowZ]] ++ [ABlk.live 1 [nilR]]).set H0.length (ABlk.live 4 [encV (emptyV m)])).set (H0 ++ [ABlk.live 4 [rowZ]]).length (ABlk.live 1 [encT ⟨nm (zLs m), zLs m⟩]) = H5 at g6 g7 g2 g3 hx ⊢
    generalize (H0 ++ [ABlk.live 4 [rowZ]]).length = b7 at g7 h7 ⊢
    refine awp_drawS [(7, 2)] (by kernel_rfl) ?_ ?_
    · simp -implicitDefEqProofs only [upd_app, ↓reduceIte, Nat.reduceEqDiff, SepF_cons, SepF_nil, sepV_ptr, and_true]
      omega
    simp -implicitDefEqProofs only [YO_f, dc_app, dcont_s, dcont_n, DD_nil, DD_one, y_assign, y_load, y_store, awp_ret, seqQ_n, none_md, upd_app, ev_tmp, ev_const, av_int, x_load, x_store, holdsO_ofO, holdsO_ofS, ↓reduceIte, Nat.reduceEqDiff, Nat.reduceAdd, Nat.zero_add, Option.getD_some, enP, Option.getD_none, ldV g6, ldT g7, stV g2 rfl, stT (get_set_ne g3 (show b3 ≠ b2 by omega)) rfl]
    rw [end_c2t (ba := b2) (bb := b3) (by simp -implicitDefEqProofs only [upd_app, ↓reduceIte, Nat.reduceEqDiff]) (by simp -implicitDefEqProofs only [upd_app, ↓reduceIte, Nat.reduceEqDiff]) (ldV (get_set_ne (get_set_eq g2) (show b2 ≠ b3 by omega))) (ldT (get_set_eq (get_set_ne g3 (show b3 ≠ b2 by omega))))]
    exact ⟨by simp -implicitDefEqProofs only [upd_app, ↓reduceIte, h0], (hx.set (by omega) _).set (by omega) _⟩
  · have hb : (modelE m == 0) = false := by simpa using h0
    unfold emV emT
    rw [if_neg h0, if_neg h0]
    refine PCall.res ?_ (err_cv _)
    refine pureT 3 (fun n H => rfl) ?_
    refine acalls_of (H := Hint.none) (enM G) Tryz.func67 rfl (by kernel_rfl) (by kernel_rfl) (Nat.le_of_ble_eq_true (by kernel_rfl)) ?_
    show awp _ _ _ _ _ (endQ _ [.cell 2 28, .cell 3 47, .tmp 4] _)
    have E := Ee.mk' h m
    simp -implicitDefEqProofs only [awp_seq, awp_reg, seqQ_n, WW_one, WW_nil, none_md, none_fz, frz_nil, ownOp, wc_app, wcont_s, upd_app, ev_tmp, ev_const, av_int, x_assign, x_alloc, x_box, x_load, holdsO_some, frameOf_zero, ↓reduceIte, Nat.reduceEqDiff, Option.getD_some, Bool.not_false, enP, bxM, al28', al47]
    generalize h ++ [ABlk.live 2 [encM m]] ++ [ABlk.live 4 [rowZ]] ++ [ABlk.live 1 [nilR]] = H0 at E ⊢
    generalize (h ++ [ABlk.live 2 [encM m]] ++ [ABlk.live 4 [rowZ]]).length = b3 at E ⊢
    generalize (h ++ [ABlk.live 2 [encM m]]).length = b2 at E ⊢
    have o2 := E.o2; have o3 := E.o3; have hlt := E.lt
    simp -implicitDefEqProofs only [WW_one, none_md, none_fz, frz_nil, ownOp, wc_app, wcont_s, upd_app, ev_tmp, ev_func, X1_call, callA_fn, holdsO_ofO, List.map_cons, List.map_nil, List.append_nil, ↓reduceIte, Option.getD_some, Bool.not_false, ldM E.gm]
    refine (model_prog G hG m hm _).use ?_
    simp -implicitDefEqProofs only [evp_nil, awp_seq, awp_reg, awp_ret, awp_cond, seqQ_n, seqQ_r, cond_t, WW_one, WW_nil, none_md, none_fz, frz_nil, ownOp, wc_app, wcont_s, wcont_n, upd_app, ev_tmp, ev_const, av_int, x_move, x_assign, x_build, x_store, x_bin, holdsO_ofO, holdsO_ofS, bin_neq, ↓reduceIte, Nat.reduceEqDiff, Option.getD_some, Bool.not_false, enP, Option.getD_none, bne, hb, bd28z, bd47z, stZ E.g2 rfl, stNil (get_set_ne E.g3 (show b3 ≠ b2 by omega)) rfl]
    rw [end_c2t (ba := b2) (bb := b3) (by simp -implicitDefEqProofs only [upd_app, ↓reduceIte, Nat.reduceEqDiff]) (by simp -implicitDefEqProofs only [upd_app, ↓reduceIte, Nat.reduceEqDiff]) (ldRow28 (get_set_ne (get_set_eq E.g2) (show b2 ≠ b3 by omega)) rfl) (ldRow47 (get_set_eq (get_set_ne E.g3 (show b3 ≠ b2 by omega))) rfl)]
    exact ⟨by simp -implicitDefEqProofs only [upd_app, ↓reduceIte], (E.hx.set (by omega) _).set (by omega) _⟩
theorem mkF26 (h : Hp) (m : Mo) (hn : m.pts.length ≤ 1048576) : aMakeSlice Tryz.prog false h 26 (.int .i64 (m.pts.length : Int)) (.int .i64 (m.pts.length : Int)) = some (.sl .full 1 (m.pts.map fun _ => nilR), h) := by
  have hz : zeroRow Tryz.prog 57 = some nilR := by kernel_rfl
  have hr : room m.pts.length 24 := room_of (by omega) (by omega)
  unfold aMakeSlice
  simp only [ud26, sz57, by26, hz, Int.toNat_natCast]
  rw [if_pos ⟨by omega, Int.le_refl _, hr, rfl⟩]
  simp [List.map_const']
theorem bd47s (xs : List (List AV)) : aBuild Tryz.prog 47 [(0, .sl .full 1 xs)] = some (.agg [.sl .full 1 xs]) := by kernel_rfl
set_option maxHeartbeats 1000000 in
theorem Empty_ref (G : Nat → AV) (m : Mo) (hm : MoOk m) (h : Hp) : PCall (En G) 40 [.agg (encM m)] h (.tup [.agg (encV (emV m)), .agg (encT (emTr m)), .int .i64 (modelE m)]) := by
  by_cases h0 : modelE m = 0
  · have hb : (modelE m == 0) = true := by simpa using h0
    unfold emV emTr
    rw [if_pos h0, if_pos h0]
    have hg := good_of h0
    refine PCall.res (r := .tup [.agg (encV (emptyV m)), .agg [.sl .full 1 (m.pts.map fun _ => nilR)], .int .i64 (modelE m)]) ?_ (CvR.tup (CvRL.cons (CvR.refl _) (CvRL.cons (CvR.agg (CvRL.cons (CvR.sl (nils_cv m.pts)) CvRL.nil)) (CvRL.refl _))))
    refine pureT 3 (fun n H => rfl) ?_
    refine acalls_of (H := Hint.none) (enM G) Tryz.func40 rfl (by kernel_rfl) (by kernel_rfl) (Nat.le_of_ble_eq_true (by kernel_rfl)) ?_
    show awp _ _ _ _ _ (endQ _ [.cell 2 28, .cell 3 47, .tmp 4] _)
    have E := Ee.mk' h m
    simp -implicitDefEqProofs only [awp_seq, awp_reg, seqQ_n, WW_one, WW_nil, none_md, none_fz, frz_nil, ownOp, wc_app, wcont_s, upd_app, ev_tmp, ev_const, av_int, x_assign, x_alloc, x_box, x_load, holdsO_some, frameOf_zero, ↓reduceIte, Nat.reduceEqDiff, Option.getD_some, Bool.not_false, enP, bxM, al28', al47]
    generalize h ++ [ABlk.live 2 [encM m]] ++ [ABlk.live 4 [rowZ]] ++ [ABlk.live 1 [nilR]] = H0 at E ⊢
    generalize (h ++ [ABlk.live 2 [encM m]] ++ [ABlk.live 4 [rowZ]]).length = b3 at E ⊢
    generalize (h ++ [ABlk.live 2 [encM m]]).length = b2 at E ⊢
    have o2 := E.o2; have o3 := E.o3; have hlt := E.lt
    simp -implicitDefEqProofs only [WW_one, none_md, none_fz, frz_nil, ownOp, wc_app, wcont_s, upd_app, ev_tmp, ev_func, X1_call, callA_fn, holdsO_ofO, List.map_cons, List.map_nil, List.append_nil, ↓reduceIte, Option.getD_some, Bool.not_false, ldM E.gm]
    refine (model_ref G m hm _).use ?_
    simp -implicitDefEqProofs only [awp_seq, awp_reg, awp_skip, awp_cond, seqQ_n, cond_f, WW_one, WW_nil, none_md, none_fz, frz_nil, ownOp, wc_app, wcont_s, upd_app, ev_tmp, ev_const, av_int, x_move, x_assign, x_bin, holdsO_ofO, bin_neq, ↓reduceIte, Option.getD_some, Bool.not_true, Bool.not_false, enP, bne, hb]
    refine awp_drawS [(15, 2), (1, 2)] (by kernel_rfl) ?_ ?_
    · simp -implicitDefEqProofs only [upd_app, frameOf_succ, frameOf_nil, ↓reduceIte, Nat.reduceEqDiff, SepF_cons, SepF_nil, sepV_ptr, sepV_u, and_true, true_and]
      omega
    simp -implicitDefEqProofs only [YO_f, dc_app, dcont_s, DD_one, y_load, y_fieldAddr, Y1_call, callP_fn, none_md, upd_app, ev_tmp, ev_func, x_load, x_fieldAddr, holdsO_ofO, List.map_cons, List.map_nil, List.append_nil, ↓reduceIte, Nat.reduceEqDiff, Nat.reduceAdd, Nat.add_zero, Option.getD_some, enP, fa25_0, ldM E.gm]
    refine ⟨_, empty_ref G m hm hg _, ?_⟩
    try simp -implicitDefEqProofs only [YO_f, evp_nil, evp_cons, dc_app, dcont_s, dcont_n, DD_nil, DD_one, y_assign, y_build, y_store, y_makeSlice, y_builtin, awp_ret, seqQ_n, none_md, upd_app, ev_tmp, ev_const, av_int, x_build, x_store, x_makeSlice, x_len, holdsO_some, holdsO_ofO, holdsO_ofS, ↓reduceIte, Nat.reduceEqDiff, Nat.reduceAdd, Nat.zero_add, Option.getD_some, enP, ln22, Option.getD_none, E.m0, List.length_map, mkF26 _ m hm.np, bd47s, stV E.g2 rfl, st47v (v3 := .sl .full 1 (m.pts.map fun _ => nilR)) (get_set_ne E.g3 (show b3 ≠ b2 by omega)) rfl rfl]
    rw [end_c2t (ba := b2) (bb := b3) (by simp -implicitDefEqProofs only [upd_app, ↓reduceIte, Nat.reduceEqDiff]) (by simp -implicitDefEqProofs only [upd_app, ↓reduceIte, Nat.reduceEqDiff]) (ldV (get_set_ne (get_set_eq E.g2) (show b2 ≠ b3 by omega))) (ldRow47 (get_set_eq (get_set_ne E.g3 (show b3 ≠ b2 by omega))) rfl)]
    exact ⟨by simp -implicitDefEqProofs only [upd_app, ↓reduceIte, h0], (E.hx.set (by omega) _).set (by omega) _⟩
  · have hb : (modelE m == 0) = false := by simpa using h0
    unfold emV emTr
    rw [if_neg h0, if_neg h0]
    refine PCall.res ?_ (err_cv _)
    refine pureT 3 (fun n H => rfl) ?_
    refine acalls_of (H := Hint.none) (enM G) Tryz.func40 rfl (by kernel_rfl) (by kernel_rfl) (Nat.le_of_ble_eq_true (by kernel_rfl)) ?_
    show awp _ _ _ _ _ (endQ _ [.cell 2 28, .cell 3 47, .tmp 4] _)
    have E := Ee.mk' h m
    simp -implicitDefEqProofs only [awp_seq, awp_reg, seqQ_n, WW_one, WW_nil, none_md, none_fz, frz_nil, ownOp, wc_app, wcont_s, upd_app, ev_tmp, ev_const, av_int, x_assign, x_alloc, x_box, x_load, holdsO_some, frameOf_zero, ↓reduceIte, Nat.reduceEqDiff, Option.getD_some, Bool.not_false, enP, bxM, al28', al47]
    generalize h ++ [ABlk.live 2 [encM m]] ++ [ABlk.live 4 [rowZ]] ++ [ABlk.live 1 [nilR]] = H0 at E ⊢
    generalize (h ++ [ABlk.live 2 [encM m]] ++ [ABlk.live 4 [rowZ]]).length = b3 at E ⊢
    generalize (h ++ [ABlk.live 2 [encM m]]).length = b2 at E ⊢
    have o2 := E.o2; have o3 := E.o3; have hlt := E.lt
    simp -implicitDefEqProofs only [WW_one, none_md, none_fz, frz_nil, ownOp, wc_app, wcont_s, upd_app, ev_tmp, ev_func, X1_call, callA_fn, holdsO_ofO, List.map_cons, List.map_nil, List.append_nil, ↓reduceIte, Option.getD_some, Bool.not_false, ldM E.gm]
    refine (model_ref G m hm _).use ?_
    simp -implicitDefEqProofs only [evp_nil, awp_seq, awp_reg, awp_ret, awp_cond, seqQ_n, seqQ_r, cond_t, WW_one, WW_nil, none_md, none_fz, frz_nil, ownOp, wc_app, wcont_s, wcont_n, upd_app, ev_tmp, ev_const, av_int, x_move, x_assign, x_build, x_store, x_bin, holdsO_ofO, holdsO_ofS, bin_neq, ↓reduceIte, Nat.reduceEqDiff, Option.getD_some, Bool.not_false, enP, Option.getD_none, bne, hb, bd28z, bd47z, stZ E.g2 rfl, stNil (get_set_ne E.g3 (show b3 ≠ b2 by omega)) rfl]
    rw [end_c2t (ba := b2) (bb := b3) (by simp -implicitDefEqProofs only [upd_app, ↓reduceIte, Nat.reduceEqDiff]) (by simp -implicitDefEqProofs only [upd_app, ↓reduceIte, Nat.reduceEqDiff]) (ldRow28 (get_set_ne (get_set_eq E.g2) (show b2 ≠ b3 by omega)) rfl) (ldRow47 (get_set_eq (get_set_ne E.g3 (show b3 ≠ b2 by omega))) rfl)]
    exact ⟨by simp -implicitDefEqProofs only [upd_app, ↓reduceIte], (E.hx.set (by omega) _).set (by omega) _⟩
end Go.Proofs.YtocilianjfhifaaGreatDoor.Cov
/- merge.merge, and the reference's Merge; no condition but the variables that are laid and the bounds on lengths. -/
set_option linter.unusedSimpArgs false
set_option maxRecDepth 8000
namespace Go.Proofs.YtocilianjfhifaaGreatDoor.Cov
open Go Go.Proofs Go.Proofs.YtocilianjfhifaaGreatDoor.Sm Go.Proofs.YtocilianjfhifaaGreatDoor.Bins Go.RowKit

theorem stVtop (h : Hp) (v : Cvr) : aStore Tryz.prog (h ++ [ABlk.live 4 [rowZ]]) 28 (.ptr h.length 0 0) (.agg (encV v)) = some (h ++ [ABlk.live 4 [encV v]]) := by rw [stV (top_get _ _) rfl, set_top]
theorem bd28 (s t : SM) (xs ys : List (List AV)) (a b : Int) : aBuild Tryz.prog 28 [(0, .sl s 1 xs), (1, .sl t 1 ys), (2, .int .i64 a), (3, .int .i64 b)] = some (.agg [.sl s 1 xs, .sl t 1 ys, .int .i64 a, .int .i64 b]) := by kernel_rfl
theorem bs37 (h : Hp) (a b : Cvr) : aBuildSlice Tryz.prog false h 37 2 [(0, .agg (encV a)), (1, .agg (encV b))] = some (.sl .full 4 ([a, b].map encV), h) := by
  have h1 : Tryz.prog.underlying 37 = some (.slice 28) := by kernel_rfl
  have h3 : zszO Tryz.prog 28 = some 4 := by kernel_rfl
  unfold aBuildSlice
  simp only [h1, sz28, h3]
  have h2 : rowsA 4 0 [(0, AV.agg (encV a)), (1, AV.agg (encV b))] = some [encV a, encV b] := rfl
  have fr : ∀ x : Cvr, (encV x).all AV.frozen = true := fun _ => rfl
  simp [h2, fr]
theorem bs37c (h : Hp) (a b c : Cvr) : aBuildSlice Tryz.prog false h 37 3 [(0, .agg (encV a)), (1, .agg (encV b)), (2, .agg (encV c))] = some (.sl .full 4 ([a, b, c].map encV), h) := by
  have h1 : Tryz.prog.underlying 37 = some (.slice 28) := by kernel_rfl
  have h3 : zszO Tryz.prog 28 = some 4 := by kernel_rfl
  unfold aBuildSlice
  simp only [h1, sz28, h3]
  have h2 : rowsA 4 0 [(0, AV.agg (encV a)), (1, AV.agg (encV b)), (2, AV.agg (encV c))] = some [encV a, encV b, encV c] := rfl
  have fr : ∀ x : Cvr, (encV x).all AV.frozen = true := fun _ => rfl
  simp [h2, fr]
theorem fold_step (l : List Cvr) (e : Cvr) (i : Nat) (hi : i < l.length) : (l.take (i + 1)).foldl addV e = addV ((l.take i).foldl addV e) l[i] := by
  rw [List.take_succ_eq_append_getElem hi, List.foldl_append]; rfl
structure Mg (h H : Hp) (b4 b5 : Nat) (c : Cvr) : Prop where
  g4 : H[b4]? = some (ABlk.live 4 [rowZ])
  g5 : H[b5]? = some (ABlk.live 4 [encV c])
  o4 : h.length < b4
  o5 : b4 < b5
  hx : ext h H
set_option maxHeartbeats 2000000 in
theorem merge_prog (G : Nat → AV) (m : Mo) (e : Cvr) (l : List Cvr) (s : SM) (h : Hp) (he : fitsB m e = true) (hl : ∀ v ∈ l, fitsB m v = true) (hn : l.length ≤ 1048576) : PCall (En G) 85 [.agg (encV e), .sl s 4 (l.map encV)] h (.agg (encV (l.foldl addV e))) := by
  refine pureT 2 (fun n H => rfl) ?_
  refine acalls_of (H := Hint.none) (enM G) Tryz.func85 rfl (by kernel_rfl) (by kernel_rfl) (Nat.le_of_ble_eq_true (by kernel_rfl)) ?_
  show awp _ _ _ _ _ (endQ _ [.cell 4 28] _)
  have E : Mg h (h ++ [ABlk.live 4 [encV e]] ++ [ABlk.live 4 [rowZ]] ++ [ABlk.live 4 [encV e]]) (h ++ [ABlk.live 4 [encV e]]).length (h ++ [ABlk.live 4 [encV e]] ++ [ABlk.live 4 [rowZ]]).length e :=
    ⟨below_get (top_get _ _), top_get _ _, by simp, by simp, (((ext.rfl' h).app _).app _).app _⟩
  have g1 : (h ++ [ABlk.live 4 [encV e]] ++ [ABlk.live 4 [rowZ]])[h.length]? = some (ABlk.live 4 [encV e]) := below_get (top_get _ _)
  simp -implicitDefEqProofs only [awp_seq, awp_block, awp_reg, seqQ_n, WW_one, WW_nil, none_md, none_fz, frz_nil, ownOp, wc_app, wcont_s, wcont_n, upd_app, ev_tmp, ev_const, av_int, x_move, x_alloc, x_box, x_load, x_store, x_len, holdsO_some, holdsO_ofO, holdsO_ofS, frameOf_zero, frameOf_succ, ↓reduceIte, Nat.reduceEqDiff, Option.getD_some, Bool.not_false, enP, ln37, Option.getD_none, bxV, al28', ldV g1, stVtop, List.length_map]
  generalize h ++ [ABlk.live 4 [encV e]] ++ [ABlk.live 4 [rowZ]] ++ [ABlk.live 4 [encV e]] = H0 at E ⊢
  generalize (h ++ [ABlk.live 4 [encV e]] ++ [ABlk.live 4 [rowZ]]).length = b5 at E ⊢
  generalize (h ++ [ABlk.live 4 [encV e]]).length = b4 at E ⊢
  refine awp_loop (fun n F H => ∃ i, n + i = l.length ∧ F 4 = .ptr b4 0 0 ∧ F 5 = .ptr b5 0 0 ∧ F 9 = .sl s 4 (l.map encV) ∧ F 10 = .int .i64 l.length ∧ F 11 = .int .i64 (i : Nat) ∧ Mg h H b4 b5 ((l.take i).foldl addV e)) l.length ⟨0, by simp, by simp -implicitDefEqProofs only [upd_app, ↓reduceIte, Nat.reduceEqDiff], by simp -implicitDefEqProofs only [upd_app, ↓reduceIte, Nat.reduceEqDiff], by simp -implicitDefEqProofs only [upd_app, ↓reduceIte, Nat.reduceEqDiff], by simp -implicitDefEqProofs only [upd_app, ↓reduceIte, Nat.reduceEqDiff], by simp -implicitDefEqProofs only [upd_app, ↓reduceIte]; rfl, by rw [List.take_zero]; exact E⟩ ?_
  clear E g1
  rintro n F H ⟨i, hi, f4, f5, f9, f10, f11, E⟩
  have o4 := E.o4; have o5 := E.o5
  simp -implicitDefEqProofs only [awp_seq, awp_reg, awp_cond, seqQ_n, WW_one, WW_nil, none_md, none_fz, frz_nil, ownOp, wc_app, wcont_s, upd_app, ev_tmp, x_bin, holdsO_ofO, bin_lss, ↓reduceIte, Option.getD_some, Bool.not_false, enP, f10, f11]
  refine cond_of (fun hc => ?_) (fun hc => ?_)
  · have hi' : i < l.length := by simpa using hc
    have hs := fold_step l e i hi'
    have hc1 := fold_fits (l.take i) e he (fun v hv => hl v (List.mem_of_mem_take hv))
    have hv1 := hl _ (List.getElem_mem hi')
    generalize (l.take i).foldl addV e = c at hs hc1 E
    have gc : (H ++ [ABlk.live 4 [encV l[i]]])[b5]? = some (ABlk.live 4 [encV c]) := below_get E.g5
    have gv := top_get H (ABlk.live 4 [encV l[i]])
    have w1 := withinB_iff.1 (fitsB_iff.1 hc1).2.2.2.1
    simp -implicitDefEqProofs only [awp_seq, awp_block, awp_reg, awp_skip, seqQ_n, WW_one, WW_nil, none_md, none_fz, frz_nil, ownOp, wc_app, wcont_s, wcont_n, upd_app, ev_tmp, x_alloc, x_load, x_store, x_indexAddr, holdsO_some, holdsO_ofO, holdsO_ofS, ↓reduceIte, Nat.reduceEqDiff, Option.getD_some, Bool.not_false, enP, ix37, Option.getD_none, f9, f11, ix_map hi', load_mapA ag28 sz28 encV_len hi', al28', stVtop]
    refine awp_draw (by kernel_rfl) ?_
    simp -implicitDefEqProofs only [YO_f, dc_app, dcont_s, DD_one, y_load, y_fieldAddr, Y1_call, callP_fn, none_md, upd_app, ev_tmp, ev_func, x_load, x_fieldAddr, holdsO_ofO, List.map_cons, List.map_nil, List.append_nil, ↓reduceIte, Nat.reduceEqDiff, Nat.reduceAdd, Nat.add_zero, Nat.zero_add, Option.getD_some, enP, fa28_0, fa28_1, f5, lv0 gc, lv0 gv]
    refine ⟨_, lists_prog G _ _ _ _ _ (sh2_pts hc1 hv1), ?_⟩
    try simp -implicitDefEqProofs only [YO_f, dc_app, dcont_s, DD_one, y_load, y_fieldAddr, Y1_call, callP_fn, none_md, upd_app, ev_tmp, ev_func, x_load, x_fieldAddr, holdsO_ofO, List.map_cons, List.map_nil, List.append_nil, ↓reduceIte, Nat.reduceEqDiff, Nat.reduceAdd, Nat.zero_add, Option.getD_some, enP, fa28_1, fa28_2, f5, lv1 gc, lv1 gv]
    refine ⟨_, lists_prog G _ _ _ _ _ (sh2_crs hc1 hv1), ?_⟩
    try simp -implicitDefEqProofs only [YO_f, dc_app, dcont_s, DD_one, y_load, y_fieldAddr, Y1_call, callP_fn, none_md, upd_app, ev_tmp, ev_func, x_load, x_fieldAddr, holdsO_ofO, List.map_cons, List.map_nil, List.append_nil, ↓reduceIte, Nat.reduceEqDiff, Nat.reduceAdd, Nat.zero_add, Option.getD_some, enP, fa28_2, fa28_3, f5, lv2 gc, lv2 gv]
    refine ⟨_, add_prog G _ _ _ (fitsB_iff.1 hc1).2.2.2.1 (fitsB_iff.1 hv1).2.2.2.1, ?_⟩
    try simp -implicitDefEqProofs only [YO_f, evp_nil, evp_cons, dc_app, dcont_s, DD_one, y_build, y_load, y_fieldAddr, Y1_call, callP_fn, none_md, upd_app, ev_tmp, ev_func, x_build, x_load, x_fieldAddr, holdsO_ofO, List.map_cons, List.map_nil, List.append_nil, ↓reduceIte, Nat.reduceEqDiff, Nat.reduceAdd, Nat.zero_add, Option.getD_some, enP, fa28_3, f5, lv3 gc, lv3 gv]
    refine ⟨_, add_prog G _ _ _ (fitsB_iff.1 hc1).2.2.2.2 (fitsB_iff.1 hv1).2.2.2.2, ?_⟩
    have hst := stV (v := addV c l[i]) gc rfl
    have hst' : aStore Tryz.prog (H ++ [ABlk.live 4 [encV l[i]]]) 28 (.ptr b5 0 0) (.agg [.sl (nm (addLs c.pts l[i].pts)) 1 ((addLs c.pts l[i].pts).map encL), .sl (nm (addLs c.crs l[i].crs)) 1 ((addLs c.crs l[i].crs).map encL), .int .i64 (addZ c.sam l[i].sam), .int .i64 (addZ c.ill l[i].ill)]) = some ((H ++ [ABlk.live 4 [encV l[i]]]).set b5 (ABlk.live 4 [encV (addV c l[i])])) := hst
    try simp -implicitDefEqProofs only [YO_f, dc_app, dcont_s, dcont_n, DD_nil, DD_one, y_store, awp_reg, seqQ_n, blk_n, rnd_n, WW_one, WW_nil, none_md, none_fz, frz_nil, ownOp, wc_app, wcont_s, upd_app, ev_tmp, ev_const, av_int, x_move, x_store, x_bin, holdsO_ofO, holdsO_ofS, bin_add, ↓reduceIte, Nat.reduceEqDiff, Nat.zero_add, Option.getD_some, Bool.not_false, enP, Option.getD_none, bd28, f5, hst', f11, wrap_succ (show i < 9223372036854775807 by omega)]
    refine ⟨n - 1, by omega, i + 1, by omega, f4, trivial, f9, f10, rfl, ?_⟩
    rw [hs]
    exact ⟨get_set_ne (below_get E.g4) (by omega), get_set_eq gc, o4, o5, (E.hx.app _).set (by omega) _⟩
  · have hi' : ¬ i < l.length := by simpa using hc
    rw [List.take_of_length_le (by omega)] at E
    simp -implicitDefEqProofs only [awp_seq, awp_reg, awp_ret, awp_exit, seqQ_n, seqQ_e, blk_e, rnd_e, WW_one, WW_nil, none_md, none_fz, frz_nil, ownOp, wc_app, wcont_s, wcont_n, upd_app, ev_tmp, x_load, x_store, holdsO_ofO, holdsO_ofS, ↓reduceIte, Nat.reduceEqDiff, Option.getD_some, Bool.not_false, enP, Option.getD_none, f4, f5, ldV E.g5, stV E.g4 rfl]
    rw [end_c1 (b := b4) (by simp -implicitDefEqProofs only [upd_app, ↓reduceIte, Nat.reduceEqDiff, f4]) (ldV (get_set_eq E.g4))]
    exact ⟨rfl, E.hx.set (by omega) _⟩
/-- what the reference's Merge returns -/
def rawM (m : Mo) (a b : Cvr) : List AV := if allE m [a, b] = 0 then encV (addV a b) else rowZ
theorem rawM_cv (m : Mo) (a b : Cvr) (e : Int) : CvR (.tup [.agg (rawM m a b), .int .i64 e]) (.tup [.agg (encV (mrgV m a b)), .int .i64 e]) := by
  unfold rawM mrgV
  split
  · exact CvR.refl _
  · exact CvR.tup (CvRL.cons zV_cv (CvRL.refl _))
theorem allE_bad {m : Mo} {l : List Cvr} (h : modelE m ≠ 0) : allE m l = modelE m := by unfold allE; rw [if_neg h]
theorem allE_one {m : Mo} {l : List Cvr} (h : modelE m = 0) {v : Cvr} (hv : v ∈ l) (hf : fitsB m v = false) : allE m l = 1 := by
  unfold allE
  rw [if_pos h, if_neg]
  intro e
  rw [List.all_eq_true.1 e v hv] at hf
  cases hf
structure Mr (h H : Hp) (m : Mo) (a b : Cvr) (b4 b5 b6 : Nat) : Prop where
  gm : H[h.length]? = some (ABlk.live 2 [encM m])
  ga : H[b4]? = some (ABlk.live 4 [encV a])
  gb : H[b5]? = some (ABlk.live 4 [encV b])
  g6 : H[b6]? = some (ABlk.live 4 [rowZ])
  o4 : h.length < b4
  o5 : b4 < b5
  o6 : b5 < b6
  hx : ext h H
theorem Mr.mk' (h : Hp) (m : Mo) (a b : Cvr) : Mr h (h ++ [ABlk.live 2 [encM m]] ++ [ABlk.live 4 [encV a]] ++ [ABlk.live 4 [encV b]] ++ [ABlk.live 4 [rowZ]]) m a b (h ++ [ABlk.live 2 [encM m]]).length (h ++ [ABlk.live 2 [encM m]] ++ [ABlk.live 4 [encV a]]).length (h ++ [ABlk.live 2 [encM m]] ++ [ABlk.live 4 [encV a]] ++ [ABlk.live 4 [encV b]]).length :=
  ⟨below_get (below_get (below_get (top_get _ _))), below_get (below_get (top_get _ _)), below_get (top_get _ _), top_get _ _, by simp, by simp, by simp, ((((ext.rfl' h).app _).app _).app _).app _⟩
theorem rawM_frz (m : Mo) (a b : Cvr) (e : Int) (n : Nat) (H : Hp) : frzF n H 3 (.tup [.agg (rawM m a b), .int .i64 e]) = .tup [.agg (rawM m a b), .int .i64 e] := by
  unfold rawM; split <;> rfl
set_option maxHeartbeats 1000000 in
theorem Merge_ref (G : Nat → AV) (m : Mo) (a b : Cvr) (hm : MoOk m) (ha : CvOk a) (hb : CvOk b) (h : Hp) : PCall (En G) 38 [.agg (encM m), .agg (encV a), .agg (encV b)] h (.tup [.agg (encV (mrgV m a b)), .int .i64 (allE m [a, b])]) := by
  refine PCall.res ?_ (rawM_cv m a b _)
  refine pureT 3 (rawM_frz m a b _) ?_
  refine acalls_of (H := Hint.none) (enM G) Tryz.func38 rfl (by kernel_rfl) (by kernel_rfl) (Nat.le_of_ble_eq_true (by kernel_rfl)) ?_
  show awp _ _ _ _ _ (endQ _ [.cell 6 28, .tmp 7] _)
  have t := Mr.mk' h m a b
  simp -implicitDefEqProofs only [awp_seq, awp_reg, seqQ_n, WW_one, WW_nil, none_md, none_fz, frz_nil, ownOp, wc_app, wcont_s, upd_app, ev_tmp, ev_const, av_int, x_assign, x_alloc, x_box, x_load, holdsO_some, frameOf_zero, frameOf_succ, ↓reduceIte, Nat.reduceEqDiff, Option.getD_some, Bool.not_false, enP, bxM, bxV, al28']
  generalize h ++ [ABlk.live 2 [encM m]] ++ [ABlk.live 4 [encV a]] ++ [ABlk.live 4 [encV b]] ++ [ABlk.live 4 [rowZ]] = H at t ⊢
  generalize (h ++ [ABlk.live 2 [encM m]] ++ [ABlk.live 4 [encV a]] ++ [ABlk.live 4 [encV b]]).length = b6 at t ⊢
  generalize (h ++ [ABlk.live 2 [encM m]] ++ [ABlk.live 4 [encV a]]).length = b5 at t ⊢
  generalize (h ++ [ABlk.live 2 [encM m]]).length = b4 at t ⊢
  have o4 := t.o4; have o5 := t.o5; have o6 := t.o6
  simp -implicitDefEqProofs only [WW_one, none_md, none_fz, frz_nil, ownOp, wc_app, wcont_s, upd_app, ev_tmp, ev_func, X1_call, callA_fn, holdsO_ofO, List.map_cons, List.map_nil, List.append_nil, ↓reduceIte, Option.getD_some, Bool.not_false, ldM t.gm]
  refine (model_ref G m hm _).use ?_
  simp -implicitDefEqProofs only [awp_seq, awp_reg, awp_cond, seqQ_n, WW_one, WW_nil, none_md, none_fz, frz_nil, ownOp, wc_app, wcont_s, upd_app, ev_tmp, ev_const, av_int, x_move, x_assign, x_bin, holdsO_ofO, bin_neq, ↓reduceIte, Option.getD_some, Bool.not_false, enP, bne]
  cases h1 : (modelE m == 0)
  · have h1' : modelE m ≠ 0 := by simpa using h1
    have hne := allE_bad (l := [a, b]) h1'
    simp -implicitDefEqProofs only [evp_nil, awp_seq, awp_reg, awp_ret, seqQ_n, seqQ_r, cond_t, WW_one, WW_nil, none_md, none_fz, frz_nil, ownOp, wc_app, wcont_s, wcont_n, upd_app, ev_tmp, x_move, x_assign, x_build, x_store, holdsO_ofO, holdsO_ofS, ↓reduceIte, Nat.reduceEqDiff, Option.getD_some, Bool.not_false, enP, Option.getD_none, bd28z, stZ t.g6 rfl]
    rw [end_c1t (ba := b6) (by simp -implicitDefEqProofs only [upd_app, ↓reduceIte, Nat.reduceEqDiff]) (ldRow28 (get_set_eq t.g6) rfl)]
    exact ⟨by simp -implicitDefEqProofs only [upd_app, ↓reduceIte, hne]; unfold rawM; rw [hne, if_neg h1'], t.hx.set (by omega) _⟩
  have h1' : modelE m = 0 := by simpa using h1
  have bad : fitsB m a = false ∨ fitsB m b = false → allE m [a, b] = 1 := fun hh => by
    rcases hh with hh | hh
    · exact allE_one h1' (v := a) (by simp) hh
    · exact allE_one h1' (v := b) (by simp) hh
  have badR : fitsB m a = false ∨ fitsB m b = false → rawM m a b = rowZ := fun hh => by
    unfold rawM; rw [bad hh]; rfl
  simp -implicitDefEqProofs only [awp_seq, awp_reg, awp_skip, seqQ_n, cond_f, WW_one, none_md, none_fz, frz_nil, ownOp, wc_app, wcont_s, upd_app, ev_tmp, ev_func, x_load, X1_call, callA_fn, holdsO_ofO, List.map_cons, List.map_nil, List.append_nil, ↓reduceIte, Nat.reduceEqDiff, Option.getD_some, Bool.not_true, Bool.not_false, enP, ldM t.gm, ldV t.ga]
  refine (fits_ref G m a hm ha _).use ?_
  simp -implicitDefEqProofs only [WW_one, WW_guardE, GX_some, gdstO, none_md, none_fz, frz_nil, ownOp, wc_app, wcont_s, upd_app, ev_tmp, x_move, x_un, holdsO_ofO, un_not, ↓reduceIte, Option.getD_some, Bool.not_false]
  cases h2 : fitsB m a
  · simp -implicitDefEqProofs only [evp_nil, awp_seq, awp_reg, awp_ret, awp_cond, seqQ_n, seqQ_r, cond_t, WW_one, WW_nil, WW_guardE, GX_some, gdstO, G1_ft, none_md, none_fz, frz_nil, ownOp, wc_app, wcont_s, wcont_n, upd_app, aput, ev_tmp, ev_const, av_int, av_bool, x_assign, x_pick, pick_t, x_build, x_store, holdsO_ofO, holdsO_ofS, ↓reduceIte, Nat.reduceEqDiff, Option.getD_some, Bool.not_false, enP, Option.getD_none, bd28z, stZ t.g6 rfl]
    rw [end_c1t (ba := b6) (by simp -implicitDefEqProofs only [upd_app, ↓reduceIte, Nat.reduceEqDiff]) (ldRow28 (get_set_eq t.g6) rfl)]
    exact ⟨by simp -implicitDefEqProofs only [upd_app, ↓reduceIte]; rw [bad (.inl h2), badR (.inl h2)], t.hx.set (by omega) _⟩
  simp -implicitDefEqProofs only [WW_guardE, GX_some, gdstO, G1_ff, none_md, none_fz, frz_nil, ownOp, wc_app, wcont_s, upd_app, ev_tmp, ev_func, x_load, X1_call, callA_fn, holdsO_ofO, List.map_cons, List.map_nil, List.append_nil, ↓reduceIte, Nat.reduceEqDiff, Option.getD_some, Bool.not_true, Bool.not_false, enP, ldM t.gm, ldV t.gb]
  refine (fits_ref G m b hm hb _).use ?_
  simp -implicitDefEqProofs only [awp_cond, seqQ_n, WW_one, WW_nil, WW_guardE, GX_some, gdstO, G1_ff, none_md, none_fz, frz_nil, ownOp, wc_app, wcont_s, upd_app, ev_tmp, ev_const, av_bool, x_pick, pick_f, x_un, holdsO_ofO, un_not, ↓reduceIte, Nat.reduceEqDiff, Option.getD_some, Bool.not_false]
  cases h3 : fitsB m b
  · simp -implicitDefEqProofs only [evp_nil, awp_seq, awp_reg, awp_ret, seqQ_n, seqQ_r, cond_t, WW_one, WW_nil, none_md, none_fz, frz_nil, ownOp, wc_app, wcont_s, wcont_n, upd_app, ev_tmp, ev_const, av_int, x_assign, x_build, x_store, holdsO_ofO, holdsO_ofS, ↓reduceIte, Nat.reduceEqDiff, Option.getD_some, Bool.not_false, enP, Option.getD_none, bd28z, stZ t.g6 rfl]
    rw [end_c1t (ba := b6) (by simp -implicitDefEqProofs only [upd_app, ↓reduceIte, Nat.reduceEqDiff]) (ldRow28 (get_set_eq t.g6) rfl)]
    exact ⟨by simp -implicitDefEqProofs only [upd_app, ↓reduceIte]; rw [bad (.inr h3), badR (.inr h3)], t.hx.set (by omega) _⟩
  have hz := allE_two h2 h3
  have w1 := withinB_iff.1 (fitsB_iff.1 h2).2.2.2.1
  have w2 := withinB_iff.1 (fitsB_iff.1 h3).2.2.2.1
  have w3 := withinB_iff.1 (fitsB_iff.1 h2).2.2.2.2
  have w4 := withinB_iff.1 (fitsB_iff.1 h3).2.2.2.2
  have hst := stV (v := addV a b) t.g6 rfl
  have hst' : aStore Tryz.prog H 28 (.ptr b6 0 0) (.agg [.sl (nm (addLs a.pts b.pts)) 1 ((addLs a.pts b.pts).map encL), .sl (nm (addLs a.crs b.crs)) 1 ((addLs a.crs b.crs).map encL), .int .i64 (min (a.sam + b.sam) 1099511627776), .int .i64 (min (a.ill + b.ill) 1099511627776)]) = some (H.set b6 (ABlk.live 4 [encV (addV a b)])) := hst
  simp -implicitDefEqProofs only [awp_seq, awp_skip, seqQ_n, cond_f, Bool.not_true]
  refine awp_draw (by kernel_rfl) ?_
  simp -implicitDefEqProofs only [YO_f, dc_app, dcont_s, DD_one, y_load, y_fieldAddr, Y1_call, callP_fn, none_md, upd_app, ev_tmp, ev_func, x_load, x_fieldAddr, holdsO_ofO, List.map_cons, List.map_nil, List.append_nil, ↓reduceIte, Nat.reduceEqDiff, Nat.reduceAdd, Nat.add_zero, Nat.zero_add, Option.getD_some, enP, fa28_0, fa28_1, lv0 t.ga, lv0 t.gb]
  refine ⟨_, sums_ref G _ _ _ _ _ (sh2_pts h2 h3), ?_⟩
  try simp -implicitDefEqProofs only [YO_f, dc_app, dcont_s, DD_one, y_load, y_fieldAddr, Y1_call, callP_fn, none_md, upd_app, ev_tmp, ev_func, x_load, x_fieldAddr, holdsO_ofO, List.map_cons, List.map_nil, List.append_nil, ↓reduceIte, Nat.reduceEqDiff, Nat.reduceAdd, Nat.zero_add, Option.getD_some, enP, fa28_1, fa28_2, lv1 t.ga, lv1 t.gb]
  refine ⟨_, sums_ref G _ _ _ _ _ (sh2_crs h2 h3), ?_⟩
  try simp -implicitDefEqProofs only [YO_f, evp_nil, evp_cons, dc_app, dcont_s, dcont_n, DD_nil, DD_one, y_assign, y_build, y_load, y_store, y_bin, y_fieldAddr, y_builtin, awp_ret, seqQ_n, none_md, upd_app, ev_tmp, ev_const, av_int, x_build, x_load, x_store, x_bin, x_fieldAddr, x_min, holdsO_ofO, holdsO_ofS, bin_add, min_ii, ↓reduceIte, Nat.reduceEqDiff, Nat.reduceAdd, Nat.zero_add, Option.getD_some, enP, fa28_2, fa28_3, Option.getD_none, lv2 t.ga, lv2 t.gb, lv3 t.ga, lv3 t.gb, wrap_i64 (n := a.sam + b.sam) (by omega) (by omega), wrap_i64 (n := a.ill + b.ill) (by omega) (by omega), bd28, hst']
  rw [end_c1t (ba := b6) (by simp -implicitDefEqProofs only [upd_app, ↓reduceIte, Nat.reduceEqDiff]) (ldV (get_set_eq t.g6))]
  exact ⟨by simp -implicitDefEqProofs only [upd_app, ↓reduceIte]; unfold rawM; rw [hz]; rfl, t.hx.set (by omega) _⟩
end Go.Proofs.YtocilianjfhifaaGreatDoor.Cov
