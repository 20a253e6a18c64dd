/- bins.Normal, as its caller sees it; no condition but the sort's contract. -/
import Derived.Test.YtpdohkcjhphibaaDoorC2
set_option linter.unusedVariables false
namespace Go.Proofs.YtpdohkcjhphibaaDoor.Bins
open Go Go.Proofs.YtpdohkcjhphibaaDoor.Sm

theorem frz_rows (n : Nat) (h : Hp) (d : Nat) (xs : List Rng) : (xs.map encR).map (·.map (frzF n h (d + 1))) = xs.map encR := by
  rw [List.map_map]
  congr 1
theorem frzF_own (n : Nat) (h : Hp) (d b off len k : Nat) (xs : List (List AV)) (hn : ¬ b < n) (hb : h[b]? = some (.live k xs)) : frzF n h (d + 1) (.own b off len) = if off + len ≤ xs.length ∧ (((xs.drop off).take len).map (·.map (frzF n h d))).all (·.all AV.leaf) = true then .sl .any k (((xs.drop off).take len).map (·.map (frzF n h d))) else .junk := by
  rw [frzF]
  simp only [hn, if_false, hb]
theorem frz_own {n d : Nat} {h : Hp} {o : Nat} {xs : List Rng} (hn : n ≤ o) (ho : h[o]? = some (.live 2 (xs.map encR))) : frzF n h (d + 2) (.own o 0 xs.length) = .sl .any 2 (xs.map encR) := by
  rw [frzF_own n h (d + 1) o 0 xs.length 2 _ (by omega) ho, List.drop_zero, List.take_of_length_le (by simp), frz_rows n h d xs]
  rw [if_pos]
  refine ⟨by simp, ?_⟩
  rw [List.all_eq_true]
  intro row hr
  obtain ⟨x, _, rfl⟩ := List.mem_map.1 hr
  rfl
theorem outR_pure {G : Nat → AV} {f : FuncId} {args : List AV} {h : Hp} {ys : List Rng} (hc : ACalls (En G) f args h fun v H => ext h H ∧ ∃ b, outR h ys b v H) : PCall (En G) f args h (.sl (nm ys) 2 (ys.map encR)) := by
  have h1 : ACalls (En G) f args h fun v H => v = (if ys = [] then AV.sl .nil 0 [] else .sl .any 2 (ys.map encR)) ∧ H = h := by
    refine ACalls.pure 2 hc ?_
    rintro v H ⟨hex, b, hout⟩
    refine ⟨hex, ?_⟩
    rcases hout with ⟨rfl, rfl⟩ | ⟨hne, o, ho1, _, rfl, ho⟩
    · rfl
    · rw [if_neg hne]; exact frz_own ho1 ho
  refine h1.conv ?_
  rintro v H ⟨rfl, rfl⟩
  refine ⟨_, ⟨rfl, rfl⟩, ?_⟩
  intro g cv hr
  unfold nm
  split at hr
  · rename_i hz; subst hz; exact nil_conv hr
  · rename_i hz; rw [if_neg hz]; exact hr
theorem normal_prog (G : Nat → AV) (hS : SortOk G) (xs : List Rng) (m : SM) (h : Hp) (hl : xs.length ≤ 8388608) : PCall (En G) 12 [.sl m 2 (xs.map encR)] h (.sl (nm (normal xs)) 2 ((normal xs).map encR)) :=
  outR_pure (normal_progA G hS xs m h hl)
end Go.Proofs.YtpdohkcjhphibaaDoor.Bins
