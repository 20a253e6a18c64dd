/- The contract of the sort of ranges, by the kit's own theorem of slices.SortFunc; no condition. -/
import Derived.Test.YtpdohkcjhphibaaDoorB4
import Derived.Shelf.SlSortCmp.WholeK
import Derived.Shelf.SlSortCmp.NoneTotal
import Derived.Shelf.SlicesG.Cmp
set_option linter.unusedVariables false
namespace Go.Proofs.YtpdohkcjhphibaaDoor.Bins
open Go Go.Proofs Go.Proofs.YtpdohkcjhphibaaDoor.Sm Go.Shelf Go.RowKit Go.Lib Go.Sort

def sortR_ren : Go.Shelf.Ren := ⟨fun | 6 => 31 | 15 => 49 | 14 => 48 | 28 => 70 | 29 => 71 | 20 => 62 | 21 => 63 | 22 => 64 | 23 => 65 | 24 => 66 | 25 => 67 | 26 => 68 | 27 => 69 | 46 => 81 | 47 => 82 | 48 => 83 | 49 => 84 | 50 => 85 | 57 => 92 | n => n, fun | 22 => 22 | 24 => 33 | 25 => 50 | 3 => 3 | 39 => 60 | 0 => 0 | 53 => 74 | 55 => 76 | 4 => 4 | 46 => 67 | 45 => 66 | 50 => 71 | 5 => 5 | 9 => 9 | 66 => 83 | 70 => 87 | 76 => 95 | 77 => 96 | n => n, fun | n => n⟩
theorem sortR : Go.Proofs.SlLaysF0.n6 Tryd.prog sortR_ren := {
  mixed := by kernel_rfl,
  f6 := ⟨Tryd.f31.name, by decide, Tryd.func31.trans (congrArg some (by kernel_rfl))⟩,
  f14 := ⟨Tryd.f48.name, by decide, Tryd.func48.trans (congrArg some (by kernel_rfl))⟩,
  f15 := Tryd.func49.trans (congrArg some (by kernel_rfl)),
  f20 := ⟨Tryd.f62.name, by decide, Tryd.func62.trans (congrArg some (by kernel_rfl))⟩,
  f21 := ⟨Tryd.f63.name, by decide, Tryd.func63.trans (congrArg some (by kernel_rfl))⟩,
  f22 := ⟨Tryd.f64.name, by decide, Tryd.func64.trans (congrArg some (by kernel_rfl))⟩,
  f23 := ⟨Tryd.f65.name, by decide, Tryd.func65.trans (congrArg some (by kernel_rfl))⟩,
  f24 := ⟨Tryd.f66.name, by decide, Tryd.func66.trans (congrArg some (by kernel_rfl))⟩,
  f25 := ⟨Tryd.f67.name, by decide, Tryd.func67.trans (congrArg some (by kernel_rfl))⟩,
  f26 := ⟨Tryd.f68.name, by decide, Tryd.func68.trans (congrArg some (by kernel_rfl))⟩,
  f27 := ⟨Tryd.f69.name, by decide, Tryd.func69.trans (congrArg some (by kernel_rfl))⟩,
  f28 := Tryd.func70.trans (congrArg some (by kernel_rfl)),
  f29 := Tryd.func71.trans (congrArg some (by kernel_rfl)),
  f46 := ⟨Tryd.f81.name, by decide, Tryd.func81.trans (congrArg some (by kernel_rfl))⟩,
  f47 := Tryd.func82.trans (congrArg some (by kernel_rfl)),
  f48 := Tryd.func83.trans (congrArg some (by kernel_rfl)),
  f49 := ⟨Tryd.f84.name, by decide, Tryd.func84.trans (congrArg some (by kernel_rfl))⟩,
  f50 := ⟨Tryd.f85.name, by decide, Tryd.func85.trans (congrArg some (by kernel_rfl))⟩,
  f57 := ⟨Tryd.f92.name, by decide, Tryd.func92.trans (congrArg some (by kernel_rfl))⟩,
  t0 := Tryd.underlying0,
  a0 := Tryd.isAgg0,
  z0 := Tryd.sizeOf0,
  v0 := Tryd.zeroValue0,
  t3 := Tryd.underlying3,
  a3 := Tryd.isAgg3,
  z3 := Tryd.sizeOf3,
  v3 := Tryd.zeroValue3,
  t4 := Tryd.underlying4,
  a4 := Tryd.isAgg4,
  z4 := Tryd.sizeOf4,
  v4 := Tryd.zeroValue4,
  t5 := Tryd.underlying5,
  a5 := Tryd.isAgg5,
  z5 := Tryd.sizeOf5,
  v5 := Tryd.zeroValue5,
  t9 := Tryd.underlying9,
  a9 := Tryd.isAgg9,
  z9 := Tryd.sizeOf9,
  v9 := Tryd.zeroValue9,
  t22 := Tryd.underlying22,
  a22 := Tryd.isAgg22,
  z22 := Tryd.sizeOf22,
  v22 := Tryd.zeroValue22,
  t25 := Tryd.underlying50,
  a25 := Tryd.isAgg50,
  z25 := Tryd.sizeOf50,
  v25 := Tryd.zeroValue50,
  t39 := Tryd.underlying60,
  a39 := Tryd.isAgg60,
  z39 := Tryd.sizeOf60,
  v39 := Tryd.zeroValue60,
  t45 := Tryd.underlying66,
  a45 := Tryd.isAgg66,
  z45 := Tryd.sizeOf66,
  v45 := Tryd.zeroValue66,
  t46 := Tryd.underlying67,
  a46 := Tryd.isAgg67,
  z46 := Tryd.sizeOf67,
  v46 := Tryd.zeroValue67,
  t50 := Tryd.underlying71,
  a50 := Tryd.isAgg71,
  z50 := Tryd.sizeOf71,
  v50 := Tryd.zeroValue71,
  t53 := Tryd.underlying74,
  a53 := Tryd.isAgg74,
  z53 := Tryd.sizeOf74,
  v53 := Tryd.zeroValue74,
  t55 := Tryd.underlying76,
  a55 := Tryd.isAgg76,
  z55 := Tryd.sizeOf76,
  v55 := Tryd.zeroValue76,
  t66 := Tryd.underlying83,
  a66 := Tryd.isAgg83,
  z66 := Tryd.sizeOf83,
  v66 := Tryd.zeroValue83,
  t70 := Tryd.underlying87,
  a70 := Tryd.isAgg87,
  z70 := Tryd.sizeOf87,
  v70 := Tryd.zeroValue87,
  t76 := Tryd.underlying95,
  a76 := Tryd.isAgg95,
  z76 := Tryd.sizeOf95,
  v76 := Tryd.zeroValue95,
  t77 := Tryd.underlying96,
  a77 := Tryd.isAgg96,
  z77 := Tryd.sizeOf96,
  v77 := Tryd.zeroValue96 }
def cmpIntR_ren : Go.Shelf.Ren := ⟨fun | 5 => 33 | 7 => 50 | n => n, fun | 22 => 3 | 3 => 3 | 4 => 4 | n => n, fun | n => n⟩
theorem cmpIntR : Go.Proofs.SlLaysC2.n5 Tryd.prog cmpIntR_ren := {
  mixed := by kernel_rfl,
  f5 := ⟨Tryd.f33.name, by decide, Tryd.func33.trans (congrArg some (by kernel_rfl))⟩,
  f7 := ⟨Tryd.f50.name, by decide, Tryd.func50.trans (congrArg some (by kernel_rfl))⟩,
  t3 := Tryd.underlying3,
  a3 := Tryd.isAgg3,
  z3 := Tryd.sizeOf3,
  v3 := Tryd.zeroValue3,
  t4 := Tryd.underlying4,
  a4 := Tryd.isAgg4,
  z4 := Tryd.sizeOf4,
  v4 := Tryd.zeroValue4,
  t22 := Tryd.underlying3,
  a22 := Tryd.isAgg3,
  z22 := Tryd.sizeOf3,
  v22 := Tryd.zeroValue3 }

def encV (x : Rng) : List Value := [.int .i64 x.lo, .int .i64 x.hi]
instance : Inhabited Rng := ⟨⟨0, 0⟩⟩
set_option maxHeartbeats 1000000 in
theorem closure32 (x y : Rng) (W : World) : Calls Tryd.prog 32 #[.agg #[.int .i64 x.lo, .int .i64 x.hi], .agg #[.int .i64 y.lo, .int .i64 y.hi]] W fun e w' => e = .returned (.int .i64 (Lib.compareInt x.lo y.lo)) ∧ ∃ q os', w' = grow (W.drewN q) os' := by
  have hcon := fun W' => AnyG.cmp_Compare_int cmpIntR x.lo y.lo W'
  change ∀ W', Calls Tryd.prog 33 _ _ _ at hcon
  generalize Lib.compareInt x.lo y.lo = r at hcon ⊢
  go_enter Tryd.func32, Tryd.ntmps32
  go_wp2_with (go_at_call 33; refine (hcon _).mono ?_; rintro e w' ⟨rfl, rfl⟩)
  go_ret
  exact ⟨rfl, 0, _, by rw [alloc_eq_grow, alloc_eq_grow, grow_grow]; rfl⟩
theorem cmpLays32 (blk off size : Nat) (w : World) : CmpLays Tryd.prog 32 #[] encV 2 (fun x y => Lib.compareInt x.lo y.lo) blk off size w :=
  fun _ _ _ _ x y => closure32 x y _
theorem ltLo (x y : Rng) : ltOf (fun x y : Rng => Lib.compareInt x.lo y.lo) x y = decide (x.lo < y.lo) := by
  unfold ltOf Lib.compareInt
  by_cases h1 : x.lo < y.lo
  · simp [h1]
  · by_cases h2 : y.lo < x.lo <;> simp [h1, h2]
theorem swoLo : SWO (ltOf fun x y : Rng => Lib.compareInt x.lo y.lo) where
  irrefl x := by rw [ltLo]; simp
  trans x y z h1 h2 := by rw [ltLo] at *; simp at *; omega
  ntrans x y z h1 h2 := by rw [ltLo] at *; simp at *; omega
end Go.Proofs.YtpdohkcjhphibaaDoor.Bins
