/- Part 4 of the proof (Ft, B1, B2, B3, B4, B5, B6, B7); no condition. -/
import Derived.Test.YtocilianjfhifaaGreatDoorProg
import Derived.KernelRfl
import Derived.Laws.RangeAny
import Derived.Test.YtocilianjfhifaaGreatDoorP3
set_option linter.unusedVariables false
/- Part of the proof; no condition. -/
/- The facts of the program's types, as the equations use them; no condition. -/
namespace Go.Proofs.YtocilianjfhifaaGreatDoor.Sm
open Go
theorem sz3 : szO Tryz.prog 3 = some 1 := by kernel_rfl
theorem ag3 : aggO Tryz.prog 3 = some false := by kernel_rfl
theorem sz4 : szO Tryz.prog 4 = some 1 := by kernel_rfl
theorem ag4 : aggO Tryz.prog 4 = some false := by kernel_rfl
theorem sz5 : szO Tryz.prog 5 = some 1 := by kernel_rfl
theorem sz9 : szO Tryz.prog 9 = some 1 := by kernel_rfl
theorem ag9 : aggO Tryz.prog 9 = some false := by kernel_rfl
theorem ag22 : aggO Tryz.prog 22 = some false := by kernel_rfl
theorem ag23 : aggO Tryz.prog 23 = some false := by kernel_rfl
theorem sz25 : szO Tryz.prog 25 = some 2 := by kernel_rfl
theorem ag25 : aggO Tryz.prog 25 = some true := by kernel_rfl
theorem sz26 : szO Tryz.prog 26 = some 1 := by kernel_rfl
theorem ag26 : aggO Tryz.prog 26 = some false := by kernel_rfl
theorem sz28 : szO Tryz.prog 28 = some 4 := by kernel_rfl
theorem ag28 : aggO Tryz.prog 28 = some true := by kernel_rfl
theorem ag37 : aggO Tryz.prog 37 = some false := by kernel_rfl
theorem sz38 : szO Tryz.prog 38 = some 1 := by kernel_rfl
theorem ag38 : aggO Tryz.prog 38 = some false := by kernel_rfl
theorem sz47 : szO Tryz.prog 47 = some 1 := by kernel_rfl
theorem ag47 : aggO Tryz.prog 47 = some true := by kernel_rfl
theorem ag51 : aggO Tryz.prog 51 = some false := by kernel_rfl
theorem sz53 : szO Tryz.prog 53 = some 4 := by kernel_rfl
theorem ag53 : aggO Tryz.prog 53 = some true := by kernel_rfl
theorem ag54 : aggO Tryz.prog 54 = some false := by kernel_rfl
theorem sz56 : szO Tryz.prog 56 = some 6 := by kernel_rfl
theorem ag56 : aggO Tryz.prog 56 = some true := by kernel_rfl
theorem sz57 : szO Tryz.prog 57 = some 1 := by kernel_rfl
theorem ag57 : aggO Tryz.prog 57 = some false := by kernel_rfl
theorem sz58 : szO Tryz.prog 58 = some 1 := by kernel_rfl
theorem sz64 : szO Tryz.prog 64 = some 1 := by kernel_rfl
theorem sz71 : szO Tryz.prog 71 = some 3 := by kernel_rfl
theorem ag71 : aggO Tryz.prog 71 = some true := by kernel_rfl
theorem sz75 : szO Tryz.prog 75 = some 3 := by kernel_rfl
theorem ag75 : aggO Tryz.prog 75 = some true := by kernel_rfl
theorem sz106 : szO Tryz.prog 106 = some 3 := by kernel_rfl
theorem ag106 : aggO Tryz.prog 106 = some true := by kernel_rfl
theorem sz108 : szO Tryz.prog 108 = some 4 := by kernel_rfl
theorem ag108 : aggO Tryz.prog 108 = some true := by kernel_rfl
theorem sz112 : szO Tryz.prog 112 = some 4 := by kernel_rfl
theorem ag112 : aggO Tryz.prog 112 = some true := by kernel_rfl
theorem sz118 : szO Tryz.prog 118 = some 1 := by kernel_rfl
theorem ag118 : aggO Tryz.prog 118 = some false := by kernel_rfl
theorem ag119 : aggO Tryz.prog 119 = some false := by kernel_rfl
theorem sz121 : szO Tryz.prog 121 = some 4 := by kernel_rfl
theorem ag121 : aggO Tryz.prog 121 = some true := by kernel_rfl
theorem sz146 : szO Tryz.prog 146 = some 1 := by kernel_rfl
theorem ag146 : aggO Tryz.prog 146 = some false := by kernel_rfl
theorem sz179 : szO Tryz.prog 179 = some 1 := by kernel_rfl
theorem ag179 : aggO Tryz.prog 179 = some false := by kernel_rfl
theorem sz185 : szO Tryz.prog 185 = some 2 := by kernel_rfl
theorem ag185 : aggO Tryz.prog 185 = some true := by kernel_rfl
theorem sz187 : szO Tryz.prog 187 = some 2 := by kernel_rfl
theorem be4 : ∀ p q, aBin Tryz.prog 4 .eql (.bool p) (.bool q) = some (.bool (p == q)) := fun p q => bin_beql Tryz.prog 4 p q (by kernel_rfl)
theorem bn4 : ∀ p q, aBin Tryz.prog 4 .neq (.bool p) (.bool q) = some (.bool (!(p == q))) := fun p q => bin_bneq Tryz.prog 4 p q (by kernel_rfl)
theorem ln9 : ∀ s, aLen Tryz.prog 9 (.str s) = some (.int .i64 s.size) := len_str (by kernel_rfl : Tryz.prog.underlying 9 = some .string)
theorem ix22 : ∀ h a i, aIndexAddr Tryz.prog h 22 a i = ixSl 6 h a i := indexAddr_of (by kernel_rfl : Tryz.prog.underlying 22 = some (.slice 56)) sz56
theorem ln22 : (∀ m k xs, aLen Tryz.prog 22 (.sl m k xs) = some (.int .i64 xs.length)) ∧ ∀ b off len, aLen Tryz.prog 22 (.own b off len) = some (.int .i64 len) := len_of (by kernel_rfl : Tryz.prog.underlying 22 = some (.slice 56))
theorem ix23 : ∀ h a i, aIndexAddr Tryz.prog h 23 a i = ixSl 3 h a i := indexAddr_of (by kernel_rfl : Tryz.prog.underlying 23 = some (.slice 71)) sz71
theorem ln23 : (∀ m k xs, aLen Tryz.prog 23 (.sl m k xs) = some (.int .i64 xs.length)) ∧ ∀ b off len, aLen Tryz.prog 23 (.own b off len) = some (.int .i64 len) := len_of (by kernel_rfl : Tryz.prog.underlying 23 = some (.slice 71))
theorem fa24_0 : (∀ b i j, aFieldAddr Tryz.prog 24 (.ptr b i j) 0 = some (.ptr b i (j + 0))) ∧ (∀ k xs i j, aFieldAddr Tryz.prog 24 (.fptr k xs i j) 0 = some (.fptr k xs i (j + 0))) := fa_of (by kernel_rfl : faOk Tryz.prog 24 0 0 = true)
theorem fa24_1 : (∀ b i j, aFieldAddr Tryz.prog 24 (.ptr b i j) 1 = some (.ptr b i (j + 1))) ∧ (∀ k xs i j, aFieldAddr Tryz.prog 24 (.fptr k xs i j) 1 = some (.fptr k xs i (j + 1))) := fa_of (by kernel_rfl : faOk Tryz.prog 24 1 1 = true)
theorem fa25_0 : (∀ b i j, aFieldAddr Tryz.prog 25 (.ptr b i j) 0 = some (.ptr b i (j + 0))) ∧ (∀ k xs i j, aFieldAddr Tryz.prog 25 (.fptr k xs i j) 0 = some (.fptr k xs i (j + 0))) := fa_of (by kernel_rfl : faOk Tryz.prog 25 0 0 = true)
theorem fa25_1 : (∀ b i j, aFieldAddr Tryz.prog 25 (.ptr b i j) 1 = some (.ptr b i (j + 1))) ∧ (∀ k xs i j, aFieldAddr Tryz.prog 25 (.fptr k xs i j) 1 = some (.fptr k xs i (j + 1))) := fa_of (by kernel_rfl : faOk Tryz.prog 25 1 1 = true)
theorem ix26 : ∀ h a i, aIndexAddr Tryz.prog h 26 a i = ixSl 1 h a i := indexAddr_of (by kernel_rfl : Tryz.prog.underlying 26 = some (.slice 57)) sz57
theorem ln26 : (∀ m k xs, aLen Tryz.prog 26 (.sl m k xs) = some (.int .i64 xs.length)) ∧ ∀ b off len, aLen Tryz.prog 26 (.own b off len) = some (.int .i64 len) := len_of (by kernel_rfl : Tryz.prog.underlying 26 = some (.slice 57))
theorem ud26 : Tryz.prog.underlying 26 = some (.slice 57) := by kernel_rfl
theorem zs26 : zszO Tryz.prog 57 = some 1 := by kernel_rfl
theorem by26 : bytesO Tryz.prog 57 = some 24 := by kernel_rfl
theorem fa27_0 : (∀ b i j, aFieldAddr Tryz.prog 27 (.ptr b i j) 0 = some (.ptr b i (j + 0))) ∧ (∀ k xs i j, aFieldAddr Tryz.prog 27 (.fptr k xs i j) 0 = some (.fptr k xs i (j + 0))) := fa_of (by kernel_rfl : faOk Tryz.prog 27 0 0 = true)
theorem fa27_1 : (∀ b i j, aFieldAddr Tryz.prog 27 (.ptr b i j) 1 = some (.ptr b i (j + 1))) ∧ (∀ k xs i j, aFieldAddr Tryz.prog 27 (.fptr k xs i j) 1 = some (.fptr k xs i (j + 1))) := fa_of (by kernel_rfl : faOk Tryz.prog 27 1 1 = true)
theorem fa27_2 : (∀ b i j, aFieldAddr Tryz.prog 27 (.ptr b i j) 2 = some (.ptr b i (j + 2))) ∧ (∀ k xs i j, aFieldAddr Tryz.prog 27 (.fptr k xs i j) 2 = some (.fptr k xs i (j + 2))) := fa_of (by kernel_rfl : faOk Tryz.prog 27 2 2 = true)
theorem fa27_3 : (∀ b i j, aFieldAddr Tryz.prog 27 (.ptr b i j) 3 = some (.ptr b i (j + 3))) ∧ (∀ k xs i j, aFieldAddr Tryz.prog 27 (.fptr k xs i j) 3 = some (.fptr k xs i (j + 3))) := fa_of (by kernel_rfl : faOk Tryz.prog 27 3 3 = true)
theorem fa28_0 : (∀ b i j, aFieldAddr Tryz.prog 28 (.ptr b i j) 0 = some (.ptr b i (j + 0))) ∧ (∀ k xs i j, aFieldAddr Tryz.prog 28 (.fptr k xs i j) 0 = some (.fptr k xs i (j + 0))) := fa_of (by kernel_rfl : faOk Tryz.prog 28 0 0 = true)
theorem fa28_1 : (∀ b i j, aFieldAddr Tryz.prog 28 (.ptr b i j) 1 = some (.ptr b i (j + 1))) ∧ (∀ k xs i j, aFieldAddr Tryz.prog 28 (.fptr k xs i j) 1 = some (.fptr k xs i (j + 1))) := fa_of (by kernel_rfl : faOk Tryz.prog 28 1 1 = true)
theorem fa28_2 : (∀ b i j, aFieldAddr Tryz.prog 28 (.ptr b i j) 2 = some (.ptr b i (j + 2))) ∧ (∀ k xs i j, aFieldAddr Tryz.prog 28 (.fptr k xs i j) 2 = some (.fptr k xs i (j + 2))) := fa_of (by kernel_rfl : faOk Tryz.prog 28 2 2 = true)
theorem fa28_3 : (∀ b i j, aFieldAddr Tryz.prog 28 (.ptr b i j) 3 = some (.ptr b i (j + 3))) ∧ (∀ k xs i j, aFieldAddr Tryz.prog 28 (.fptr k xs i j) 3 = some (.fptr k xs i (j + 3))) := fa_of (by kernel_rfl : faOk Tryz.prog 28 3 3 = true)
theorem ix32 : ∀ h a i, aIndexAddr Tryz.prog h 32 a i = ixSl 3 h a i := indexAddr_of (by kernel_rfl : Tryz.prog.underlying 32 = some (.slice 106)) sz106
theorem ln32 : (∀ m k xs, aLen Tryz.prog 32 (.sl m k xs) = some (.int .i64 xs.length)) ∧ ∀ b off len, aLen Tryz.prog 32 (.own b off len) = some (.int .i64 len) := len_of (by kernel_rfl : Tryz.prog.underlying 32 = some (.slice 106))
theorem ud32 : Tryz.prog.underlying 32 = some (.slice 106) := by kernel_rfl
theorem zs32 : zszO Tryz.prog 106 = some 3 := by kernel_rfl
theorem by32 : bytesO Tryz.prog 106 = some 40 := by kernel_rfl
theorem ix37 : ∀ h a i, aIndexAddr Tryz.prog h 37 a i = ixSl 4 h a i := indexAddr_of (by kernel_rfl : Tryz.prog.underlying 37 = some (.slice 28)) sz28
theorem ln37 : (∀ m k xs, aLen Tryz.prog 37 (.sl m k xs) = some (.int .i64 xs.length)) ∧ ∀ b off len, aLen Tryz.prog 37 (.own b off len) = some (.int .i64 len) := len_of (by kernel_rfl : Tryz.prog.underlying 37 = some (.slice 28))
theorem ud37 : Tryz.prog.underlying 37 = some (.slice 28) := by kernel_rfl
theorem zs37 : zszO Tryz.prog 28 = some 4 := by kernel_rfl
theorem by37 : bytesO Tryz.prog 28 = some 64 := by kernel_rfl
theorem fa46_0 : (∀ b i j, aFieldAddr Tryz.prog 46 (.ptr b i j) 0 = some (.ptr b i (j + 0))) ∧ (∀ k xs i j, aFieldAddr Tryz.prog 46 (.fptr k xs i j) 0 = some (.fptr k xs i (j + 0))) := fa_of (by kernel_rfl : faOk Tryz.prog 46 0 0 = true)
theorem fa47_0 : (∀ b i j, aFieldAddr Tryz.prog 47 (.ptr b i j) 0 = some (.ptr b i (j + 0))) ∧ (∀ k xs i j, aFieldAddr Tryz.prog 47 (.fptr k xs i j) 0 = some (.fptr k xs i (j + 0))) := fa_of (by kernel_rfl : faOk Tryz.prog 47 0 0 = true)
theorem ix51 : ∀ h a i, aIndexAddr Tryz.prog h 51 a i = ixSl 4 h a i := indexAddr_of (by kernel_rfl : Tryz.prog.underlying 51 = some (.slice 53)) sz53
theorem ln51 : (∀ m k xs, aLen Tryz.prog 51 (.sl m k xs) = some (.int .i64 xs.length)) ∧ ∀ b off len, aLen Tryz.prog 51 (.own b off len) = some (.int .i64 len) := len_of (by kernel_rfl : Tryz.prog.underlying 51 = some (.slice 53))
theorem fa52_0 : (∀ b i j, aFieldAddr Tryz.prog 52 (.ptr b i j) 0 = some (.ptr b i (j + 0))) ∧ (∀ k xs i j, aFieldAddr Tryz.prog 52 (.fptr k xs i j) 0 = some (.fptr k xs i (j + 0))) := fa_of (by kernel_rfl : faOk Tryz.prog 52 0 0 = true)
theorem fa52_1 : (∀ b i j, aFieldAddr Tryz.prog 52 (.ptr b i j) 1 = some (.ptr b i (j + 1))) ∧ (∀ k xs i j, aFieldAddr Tryz.prog 52 (.fptr k xs i j) 1 = some (.fptr k xs i (j + 1))) := fa_of (by kernel_rfl : faOk Tryz.prog 52 1 1 = true)
theorem fa52_2 : (∀ b i j, aFieldAddr Tryz.prog 52 (.ptr b i j) 2 = some (.ptr b i (j + 2))) ∧ (∀ k xs i j, aFieldAddr Tryz.prog 52 (.fptr k xs i j) 2 = some (.fptr k xs i (j + 2))) := fa_of (by kernel_rfl : faOk Tryz.prog 52 2 2 = true)
theorem fa52_3 : (∀ b i j, aFieldAddr Tryz.prog 52 (.ptr b i j) 3 = some (.ptr b i (j + 3))) ∧ (∀ k xs i j, aFieldAddr Tryz.prog 52 (.fptr k xs i j) 3 = some (.fptr k xs i (j + 3))) := fa_of (by kernel_rfl : faOk Tryz.prog 52 3 3 = true)
theorem fa53_0 : (∀ b i j, aFieldAddr Tryz.prog 53 (.ptr b i j) 0 = some (.ptr b i (j + 0))) ∧ (∀ k xs i j, aFieldAddr Tryz.prog 53 (.fptr k xs i j) 0 = some (.fptr k xs i (j + 0))) := fa_of (by kernel_rfl : faOk Tryz.prog 53 0 0 = true)
theorem fa53_1 : (∀ b i j, aFieldAddr Tryz.prog 53 (.ptr b i j) 1 = some (.ptr b i (j + 1))) ∧ (∀ k xs i j, aFieldAddr Tryz.prog 53 (.fptr k xs i j) 1 = some (.fptr k xs i (j + 1))) := fa_of (by kernel_rfl : faOk Tryz.prog 53 1 1 = true)
theorem fa53_2 : (∀ b i j, aFieldAddr Tryz.prog 53 (.ptr b i j) 2 = some (.ptr b i (j + 2))) ∧ (∀ k xs i j, aFieldAddr Tryz.prog 53 (.fptr k xs i j) 2 = some (.fptr k xs i (j + 2))) := fa_of (by kernel_rfl : faOk Tryz.prog 53 2 2 = true)
theorem fa53_3 : (∀ b i j, aFieldAddr Tryz.prog 53 (.ptr b i j) 3 = some (.ptr b i (j + 3))) ∧ (∀ k xs i j, aFieldAddr Tryz.prog 53 (.fptr k xs i j) 3 = some (.fptr k xs i (j + 3))) := fa_of (by kernel_rfl : faOk Tryz.prog 53 3 3 = true)
theorem ix54 : ∀ h a i, aIndexAddr Tryz.prog h 54 a i = ixSl 4 h a i := indexAddr_of (by kernel_rfl : Tryz.prog.underlying 54 = some (.slice 121)) sz121
theorem ln54 : (∀ m k xs, aLen Tryz.prog 54 (.sl m k xs) = some (.int .i64 xs.length)) ∧ ∀ b off len, aLen Tryz.prog 54 (.own b off len) = some (.int .i64 len) := len_of (by kernel_rfl : Tryz.prog.underlying 54 = some (.slice 121))
theorem fa55_0 : (∀ b i j, aFieldAddr Tryz.prog 55 (.ptr b i j) 0 = some (.ptr b i (j + 0))) ∧ (∀ k xs i j, aFieldAddr Tryz.prog 55 (.fptr k xs i j) 0 = some (.fptr k xs i (j + 0))) := fa_of (by kernel_rfl : faOk Tryz.prog 55 0 0 = true)
theorem fa55_1 : (∀ b i j, aFieldAddr Tryz.prog 55 (.ptr b i j) 1 = some (.ptr b i (j + 1))) ∧ (∀ k xs i j, aFieldAddr Tryz.prog 55 (.fptr k xs i j) 1 = some (.fptr k xs i (j + 1))) := fa_of (by kernel_rfl : faOk Tryz.prog 55 1 1 = true)
theorem fa55_2 : (∀ b i j, aFieldAddr Tryz.prog 55 (.ptr b i j) 2 = some (.ptr b i (j + 5))) ∧ (∀ k xs i j, aFieldAddr Tryz.prog 55 (.fptr k xs i j) 2 = some (.fptr k xs i (j + 5))) := fa_of (by kernel_rfl : faOk Tryz.prog 55 2 5 = true)
theorem fa56_0 : (∀ b i j, aFieldAddr Tryz.prog 56 (.ptr b i j) 0 = some (.ptr b i (j + 0))) ∧ (∀ k xs i j, aFieldAddr Tryz.prog 56 (.fptr k xs i j) 0 = some (.fptr k xs i (j + 0))) := fa_of (by kernel_rfl : faOk Tryz.prog 56 0 0 = true)
theorem fa56_1 : (∀ b i j, aFieldAddr Tryz.prog 56 (.ptr b i j) 1 = some (.ptr b i (j + 1))) ∧ (∀ k xs i j, aFieldAddr Tryz.prog 56 (.fptr k xs i j) 1 = some (.fptr k xs i (j + 1))) := fa_of (by kernel_rfl : faOk Tryz.prog 56 1 1 = true)
theorem fa56_2 : (∀ b i j, aFieldAddr Tryz.prog 56 (.ptr b i j) 2 = some (.ptr b i (j + 5))) ∧ (∀ k xs i j, aFieldAddr Tryz.prog 56 (.fptr k xs i j) 2 = some (.fptr k xs i (j + 5))) := fa_of (by kernel_rfl : faOk Tryz.prog 56 2 5 = true)
theorem ix57 : ∀ h a i, aIndexAddr Tryz.prog h 57 a i = ixSl 1 h a i := indexAddr_of (by kernel_rfl : Tryz.prog.underlying 57 = some (.slice 3)) sz3
theorem ln57 : (∀ m k xs, aLen Tryz.prog 57 (.sl m k xs) = some (.int .i64 xs.length)) ∧ ∀ b off len, aLen Tryz.prog 57 (.own b off len) = some (.int .i64 len) := len_of (by kernel_rfl : Tryz.prog.underlying 57 = some (.slice 3))
theorem ud57 : Tryz.prog.underlying 57 = some (.slice 3) := by kernel_rfl
theorem zs57 : zszO Tryz.prog 3 = some 1 := by kernel_rfl
theorem by57 : bytesO Tryz.prog 3 = some 8 := by kernel_rfl
theorem ix58 : ∀ h a i, aIndexAddr Tryz.prog h 58 a i = ixSl 2 h a i := indexAddr_of (by kernel_rfl : Tryz.prog.underlying 58 = some (.slice 187)) sz187
theorem ln58 : (∀ m k xs, aLen Tryz.prog 58 (.sl m k xs) = some (.int .i64 xs.length)) ∧ ∀ b off len, aLen Tryz.prog 58 (.own b off len) = some (.int .i64 len) := len_of (by kernel_rfl : Tryz.prog.underlying 58 = some (.slice 187))
theorem ix64 : ∀ h a i, aIndexAddr Tryz.prog h 64 a i = ixSl 1 h a i := indexAddr_of (by kernel_rfl : Tryz.prog.underlying 64 = some (.slice 58)) sz58
theorem ln64 : (∀ m k xs, aLen Tryz.prog 64 (.sl m k xs) = some (.int .i64 xs.length)) ∧ ∀ b off len, aLen Tryz.prog 64 (.own b off len) = some (.int .i64 len) := len_of (by kernel_rfl : Tryz.prog.underlying 64 = some (.slice 58))
theorem fa70_0 : (∀ b i j, aFieldAddr Tryz.prog 70 (.ptr b i j) 0 = some (.ptr b i (j + 0))) ∧ (∀ k xs i j, aFieldAddr Tryz.prog 70 (.fptr k xs i j) 0 = some (.fptr k xs i (j + 0))) := fa_of (by kernel_rfl : faOk Tryz.prog 70 0 0 = true)
theorem fa70_1 : (∀ b i j, aFieldAddr Tryz.prog 70 (.ptr b i j) 1 = some (.ptr b i (j + 1))) ∧ (∀ k xs i j, aFieldAddr Tryz.prog 70 (.fptr k xs i j) 1 = some (.fptr k xs i (j + 1))) := fa_of (by kernel_rfl : faOk Tryz.prog 70 1 1 = true)
theorem fa70_2 : (∀ b i j, aFieldAddr Tryz.prog 70 (.ptr b i j) 2 = some (.ptr b i (j + 2))) ∧ (∀ k xs i j, aFieldAddr Tryz.prog 70 (.fptr k xs i j) 2 = some (.fptr k xs i (j + 2))) := fa_of (by kernel_rfl : faOk Tryz.prog 70 2 2 = true)
theorem fa71_0 : (∀ b i j, aFieldAddr Tryz.prog 71 (.ptr b i j) 0 = some (.ptr b i (j + 0))) ∧ (∀ k xs i j, aFieldAddr Tryz.prog 71 (.fptr k xs i j) 0 = some (.fptr k xs i (j + 0))) := fa_of (by kernel_rfl : faOk Tryz.prog 71 0 0 = true)
theorem fa71_1 : (∀ b i j, aFieldAddr Tryz.prog 71 (.ptr b i j) 1 = some (.ptr b i (j + 1))) ∧ (∀ k xs i j, aFieldAddr Tryz.prog 71 (.fptr k xs i j) 1 = some (.fptr k xs i (j + 1))) := fa_of (by kernel_rfl : faOk Tryz.prog 71 1 1 = true)
theorem fa71_2 : (∀ b i j, aFieldAddr Tryz.prog 71 (.ptr b i j) 2 = some (.ptr b i (j + 2))) ∧ (∀ k xs i j, aFieldAddr Tryz.prog 71 (.fptr k xs i j) 2 = some (.fptr k xs i (j + 2))) := fa_of (by kernel_rfl : faOk Tryz.prog 71 2 2 = true)
theorem fa74_0 : (∀ b i j, aFieldAddr Tryz.prog 74 (.ptr b i j) 0 = some (.ptr b i (j + 0))) ∧ (∀ k xs i j, aFieldAddr Tryz.prog 74 (.fptr k xs i j) 0 = some (.fptr k xs i (j + 0))) := fa_of (by kernel_rfl : faOk Tryz.prog 74 0 0 = true)
theorem fa74_1 : (∀ b i j, aFieldAddr Tryz.prog 74 (.ptr b i j) 1 = some (.ptr b i (j + 2))) ∧ (∀ k xs i j, aFieldAddr Tryz.prog 74 (.fptr k xs i j) 1 = some (.fptr k xs i (j + 2))) := fa_of (by kernel_rfl : faOk Tryz.prog 74 1 2 = true)
theorem fa75_0 : (∀ b i j, aFieldAddr Tryz.prog 75 (.ptr b i j) 0 = some (.ptr b i (j + 0))) ∧ (∀ k xs i j, aFieldAddr Tryz.prog 75 (.fptr k xs i j) 0 = some (.fptr k xs i (j + 0))) := fa_of (by kernel_rfl : faOk Tryz.prog 75 0 0 = true)
theorem fa75_1 : (∀ b i j, aFieldAddr Tryz.prog 75 (.ptr b i j) 1 = some (.ptr b i (j + 2))) ∧ (∀ k xs i j, aFieldAddr Tryz.prog 75 (.fptr k xs i j) 1 = some (.fptr k xs i (j + 2))) := fa_of (by kernel_rfl : faOk Tryz.prog 75 1 2 = true)
theorem ix84 : ∀ h a i, aIndexAddr Tryz.prog h 84 a i = ixSl 1 h a i := indexAddr_of (by kernel_rfl : Tryz.prog.underlying 84 = some (.slice 4)) sz4
theorem ln84 : (∀ m k xs, aLen Tryz.prog 84 (.sl m k xs) = some (.int .i64 xs.length)) ∧ ∀ b off len, aLen Tryz.prog 84 (.own b off len) = some (.int .i64 len) := len_of (by kernel_rfl : Tryz.prog.underlying 84 = some (.slice 4))
theorem fa88_0 : (∀ b i j, aFieldAddr Tryz.prog 88 (.ptr b i j) 0 = some (.ptr b i (j + 0))) ∧ (∀ k xs i j, aFieldAddr Tryz.prog 88 (.fptr k xs i j) 0 = some (.fptr k xs i (j + 0))) := fa_of (by kernel_rfl : faOk Tryz.prog 88 0 0 = true)
theorem fa88_1 : (∀ b i j, aFieldAddr Tryz.prog 88 (.ptr b i j) 1 = some (.ptr b i (j + 4))) ∧ (∀ k xs i j, aFieldAddr Tryz.prog 88 (.fptr k xs i j) 1 = some (.fptr k xs i (j + 4))) := fa_of (by kernel_rfl : faOk Tryz.prog 88 1 4 = true)
theorem fa89_0 : (∀ b i j, aFieldAddr Tryz.prog 89 (.ptr b i j) 0 = some (.ptr b i (j + 0))) ∧ (∀ k xs i j, aFieldAddr Tryz.prog 89 (.fptr k xs i j) 0 = some (.fptr k xs i (j + 0))) := fa_of (by kernel_rfl : faOk Tryz.prog 89 0 0 = true)
theorem fa89_1 : (∀ b i j, aFieldAddr Tryz.prog 89 (.ptr b i j) 1 = some (.ptr b i (j + 4))) ∧ (∀ k xs i j, aFieldAddr Tryz.prog 89 (.fptr k xs i j) 1 = some (.fptr k xs i (j + 4))) := fa_of (by kernel_rfl : faOk Tryz.prog 89 1 4 = true)
theorem ix96 : ∀ h a i, aIndexAddr Tryz.prog h 96 a i = ixSl 1 h a i := indexAddr_of (by kernel_rfl : Tryz.prog.underlying 96 = some (.slice 64)) sz64
theorem ln96 : (∀ m k xs, aLen Tryz.prog 96 (.sl m k xs) = some (.int .i64 xs.length)) ∧ ∀ b off len, aLen Tryz.prog 96 (.own b off len) = some (.int .i64 len) := len_of (by kernel_rfl : Tryz.prog.underlying 96 = some (.slice 64))
theorem ix101 : ∀ h a i, aIndexAddr Tryz.prog h 101 a i = ixSl 4 h a i := indexAddr_of (by kernel_rfl : Tryz.prog.underlying 101 = some (.slice 108)) sz108
theorem ln101 : (∀ m k xs, aLen Tryz.prog 101 (.sl m k xs) = some (.int .i64 xs.length)) ∧ ∀ b off len, aLen Tryz.prog 101 (.own b off len) = some (.int .i64 len) := len_of (by kernel_rfl : Tryz.prog.underlying 101 = some (.slice 108))
theorem ud101 : Tryz.prog.underlying 101 = some (.slice 108) := by kernel_rfl
theorem zs101 : zszO Tryz.prog 108 = some 4 := by kernel_rfl
theorem by101 : bytesO Tryz.prog 108 = some 48 := by kernel_rfl
theorem ix103 : ∀ h a i, aIndexAddr Tryz.prog h 103 a i = ixSl 4 h a i := indexAddr_of (by kernel_rfl : Tryz.prog.underlying 103 = some (.slice 112)) sz112
theorem ln103 : (∀ m k xs, aLen Tryz.prog 103 (.sl m k xs) = some (.int .i64 xs.length)) ∧ ∀ b off len, aLen Tryz.prog 103 (.own b off len) = some (.int .i64 len) := len_of (by kernel_rfl : Tryz.prog.underlying 103 = some (.slice 112))
theorem ud103 : Tryz.prog.underlying 103 = some (.slice 112) := by kernel_rfl
theorem zs103 : zszO Tryz.prog 112 = some 4 := by kernel_rfl
theorem by103 : bytesO Tryz.prog 112 = some 48 := by kernel_rfl
theorem fa105_0 : (∀ b i j, aFieldAddr Tryz.prog 105 (.ptr b i j) 0 = some (.ptr b i (j + 0))) ∧ (∀ k xs i j, aFieldAddr Tryz.prog 105 (.fptr k xs i j) 0 = some (.fptr k xs i (j + 0))) := fa_of (by kernel_rfl : faOk Tryz.prog 105 0 0 = true)
theorem fa105_1 : (∀ b i j, aFieldAddr Tryz.prog 105 (.ptr b i j) 1 = some (.ptr b i (j + 1))) ∧ (∀ k xs i j, aFieldAddr Tryz.prog 105 (.fptr k xs i j) 1 = some (.fptr k xs i (j + 1))) := fa_of (by kernel_rfl : faOk Tryz.prog 105 1 1 = true)
theorem fa105_2 : (∀ b i j, aFieldAddr Tryz.prog 105 (.ptr b i j) 2 = some (.ptr b i (j + 2))) ∧ (∀ k xs i j, aFieldAddr Tryz.prog 105 (.fptr k xs i j) 2 = some (.fptr k xs i (j + 2))) := fa_of (by kernel_rfl : faOk Tryz.prog 105 2 2 = true)
theorem fa106_0 : (∀ b i j, aFieldAddr Tryz.prog 106 (.ptr b i j) 0 = some (.ptr b i (j + 0))) ∧ (∀ k xs i j, aFieldAddr Tryz.prog 106 (.fptr k xs i j) 0 = some (.fptr k xs i (j + 0))) := fa_of (by kernel_rfl : faOk Tryz.prog 106 0 0 = true)
theorem fa106_1 : (∀ b i j, aFieldAddr Tryz.prog 106 (.ptr b i j) 1 = some (.ptr b i (j + 1))) ∧ (∀ k xs i j, aFieldAddr Tryz.prog 106 (.fptr k xs i j) 1 = some (.fptr k xs i (j + 1))) := fa_of (by kernel_rfl : faOk Tryz.prog 106 1 1 = true)
theorem fa106_2 : (∀ b i j, aFieldAddr Tryz.prog 106 (.ptr b i j) 2 = some (.ptr b i (j + 2))) ∧ (∀ k xs i j, aFieldAddr Tryz.prog 106 (.fptr k xs i j) 2 = some (.fptr k xs i (j + 2))) := fa_of (by kernel_rfl : faOk Tryz.prog 106 2 2 = true)
theorem fa107_0 : (∀ b i j, aFieldAddr Tryz.prog 107 (.ptr b i j) 0 = some (.ptr b i (j + 0))) ∧ (∀ k xs i j, aFieldAddr Tryz.prog 107 (.fptr k xs i j) 0 = some (.fptr k xs i (j + 0))) := fa_of (by kernel_rfl : faOk Tryz.prog 107 0 0 = true)
theorem fa107_1 : (∀ b i j, aFieldAddr Tryz.prog 107 (.ptr b i j) 1 = some (.ptr b i (j + 3))) ∧ (∀ k xs i j, aFieldAddr Tryz.prog 107 (.fptr k xs i j) 1 = some (.fptr k xs i (j + 3))) := fa_of (by kernel_rfl : faOk Tryz.prog 107 1 3 = true)
theorem fa108_0 : (∀ b i j, aFieldAddr Tryz.prog 108 (.ptr b i j) 0 = some (.ptr b i (j + 0))) ∧ (∀ k xs i j, aFieldAddr Tryz.prog 108 (.fptr k xs i j) 0 = some (.fptr k xs i (j + 0))) := fa_of (by kernel_rfl : faOk Tryz.prog 108 0 0 = true)
theorem fa108_1 : (∀ b i j, aFieldAddr Tryz.prog 108 (.ptr b i j) 1 = some (.ptr b i (j + 3))) ∧ (∀ k xs i j, aFieldAddr Tryz.prog 108 (.fptr k xs i j) 1 = some (.fptr k xs i (j + 3))) := fa_of (by kernel_rfl : faOk Tryz.prog 108 1 3 = true)
theorem fa111_0 : (∀ b i j, aFieldAddr Tryz.prog 111 (.ptr b i j) 0 = some (.ptr b i (j + 0))) ∧ (∀ k xs i j, aFieldAddr Tryz.prog 111 (.fptr k xs i j) 0 = some (.fptr k xs i (j + 0))) := fa_of (by kernel_rfl : faOk Tryz.prog 111 0 0 = true)
theorem fa111_1 : (∀ b i j, aFieldAddr Tryz.prog 111 (.ptr b i j) 1 = some (.ptr b i (j + 3))) ∧ (∀ k xs i j, aFieldAddr Tryz.prog 111 (.fptr k xs i j) 1 = some (.fptr k xs i (j + 3))) := fa_of (by kernel_rfl : faOk Tryz.prog 111 1 3 = true)
theorem fa112_0 : (∀ b i j, aFieldAddr Tryz.prog 112 (.ptr b i j) 0 = some (.ptr b i (j + 0))) ∧ (∀ k xs i j, aFieldAddr Tryz.prog 112 (.fptr k xs i j) 0 = some (.fptr k xs i (j + 0))) := fa_of (by kernel_rfl : faOk Tryz.prog 112 0 0 = true)
theorem fa112_1 : (∀ b i j, aFieldAddr Tryz.prog 112 (.ptr b i j) 1 = some (.ptr b i (j + 3))) ∧ (∀ k xs i j, aFieldAddr Tryz.prog 112 (.fptr k xs i j) 1 = some (.fptr k xs i (j + 3))) := fa_of (by kernel_rfl : faOk Tryz.prog 112 1 3 = true)
theorem ix118 : ∀ h a i, aIndexAddr Tryz.prog h 118 a i = ixSl 2 h a i := indexAddr_of (by kernel_rfl : Tryz.prog.underlying 118 = some (.slice 185)) sz185
theorem ln118 : (∀ m k xs, aLen Tryz.prog 118 (.sl m k xs) = some (.int .i64 xs.length)) ∧ ∀ b off len, aLen Tryz.prog 118 (.own b off len) = some (.int .i64 len) := len_of (by kernel_rfl : Tryz.prog.underlying 118 = some (.slice 185))
theorem ix119 : ∀ h a i, aIndexAddr Tryz.prog h 119 a i = ixSl 1 h a i := indexAddr_of (by kernel_rfl : Tryz.prog.underlying 119 = some (.slice 118)) sz118
theorem ln119 : (∀ m k xs, aLen Tryz.prog 119 (.sl m k xs) = some (.int .i64 xs.length)) ∧ ∀ b off len, aLen Tryz.prog 119 (.own b off len) = some (.int .i64 len) := len_of (by kernel_rfl : Tryz.prog.underlying 119 = some (.slice 118))
theorem fa120_0 : (∀ b i j, aFieldAddr Tryz.prog 120 (.ptr b i j) 0 = some (.ptr b i (j + 0))) ∧ (∀ k xs i j, aFieldAddr Tryz.prog 120 (.fptr k xs i j) 0 = some (.fptr k xs i (j + 0))) := fa_of (by kernel_rfl : faOk Tryz.prog 120 0 0 = true)
theorem fa120_1 : (∀ b i j, aFieldAddr Tryz.prog 120 (.ptr b i j) 1 = some (.ptr b i (j + 1))) ∧ (∀ k xs i j, aFieldAddr Tryz.prog 120 (.fptr k xs i j) 1 = some (.fptr k xs i (j + 1))) := fa_of (by kernel_rfl : faOk Tryz.prog 120 1 1 = true)
theorem fa120_2 : (∀ b i j, aFieldAddr Tryz.prog 120 (.ptr b i j) 2 = some (.ptr b i (j + 2))) ∧ (∀ k xs i j, aFieldAddr Tryz.prog 120 (.fptr k xs i j) 2 = some (.fptr k xs i (j + 2))) := fa_of (by kernel_rfl : faOk Tryz.prog 120 2 2 = true)
theorem fa120_3 : (∀ b i j, aFieldAddr Tryz.prog 120 (.ptr b i j) 3 = some (.ptr b i (j + 3))) ∧ (∀ k xs i j, aFieldAddr Tryz.prog 120 (.fptr k xs i j) 3 = some (.fptr k xs i (j + 3))) := fa_of (by kernel_rfl : faOk Tryz.prog 120 3 3 = true)
theorem fa121_0 : (∀ b i j, aFieldAddr Tryz.prog 121 (.ptr b i j) 0 = some (.ptr b i (j + 0))) ∧ (∀ k xs i j, aFieldAddr Tryz.prog 121 (.fptr k xs i j) 0 = some (.fptr k xs i (j + 0))) := fa_of (by kernel_rfl : faOk Tryz.prog 121 0 0 = true)
theorem fa121_1 : (∀ b i j, aFieldAddr Tryz.prog 121 (.ptr b i j) 1 = some (.ptr b i (j + 1))) ∧ (∀ k xs i j, aFieldAddr Tryz.prog 121 (.fptr k xs i j) 1 = some (.fptr k xs i (j + 1))) := fa_of (by kernel_rfl : faOk Tryz.prog 121 1 1 = true)
theorem fa121_2 : (∀ b i j, aFieldAddr Tryz.prog 121 (.ptr b i j) 2 = some (.ptr b i (j + 2))) ∧ (∀ k xs i j, aFieldAddr Tryz.prog 121 (.fptr k xs i j) 2 = some (.fptr k xs i (j + 2))) := fa_of (by kernel_rfl : faOk Tryz.prog 121 2 2 = true)
theorem fa121_3 : (∀ b i j, aFieldAddr Tryz.prog 121 (.ptr b i j) 3 = some (.ptr b i (j + 3))) ∧ (∀ k xs i j, aFieldAddr Tryz.prog 121 (.fptr k xs i j) 3 = some (.fptr k xs i (j + 3))) := fa_of (by kernel_rfl : faOk Tryz.prog 121 3 3 = true)
theorem fa132_0 : (∀ b i j, aFieldAddr Tryz.prog 132 (.ptr b i j) 0 = some (.ptr b i (j + 0))) ∧ (∀ k xs i j, aFieldAddr Tryz.prog 132 (.fptr k xs i j) 0 = some (.fptr k xs i (j + 0))) := fa_of (by kernel_rfl : faOk Tryz.prog 132 0 0 = true)
theorem fa132_1 : (∀ b i j, aFieldAddr Tryz.prog 132 (.ptr b i j) 1 = some (.ptr b i (j + 1))) ∧ (∀ k xs i j, aFieldAddr Tryz.prog 132 (.fptr k xs i j) 1 = some (.fptr k xs i (j + 1))) := fa_of (by kernel_rfl : faOk Tryz.prog 132 1 1 = true)
theorem fa133_0 : (∀ b i j, aFieldAddr Tryz.prog 133 (.ptr b i j) 0 = some (.ptr b i (j + 0))) ∧ (∀ k xs i j, aFieldAddr Tryz.prog 133 (.fptr k xs i j) 0 = some (.fptr k xs i (j + 0))) := fa_of (by kernel_rfl : faOk Tryz.prog 133 0 0 = true)
theorem fa133_1 : (∀ b i j, aFieldAddr Tryz.prog 133 (.ptr b i j) 1 = some (.ptr b i (j + 1))) ∧ (∀ k xs i j, aFieldAddr Tryz.prog 133 (.fptr k xs i j) 1 = some (.fptr k xs i (j + 1))) := fa_of (by kernel_rfl : faOk Tryz.prog 133 1 1 = true)
theorem ix143 : ∀ h a i, aIndexAddr Tryz.prog h 143 a i = ixSl 1 h a i := indexAddr_of (by kernel_rfl : Tryz.prog.underlying 143 = some (.slice 146)) sz146
theorem ln143 : (∀ m k xs, aLen Tryz.prog 143 (.sl m k xs) = some (.int .i64 xs.length)) ∧ ∀ b off len, aLen Tryz.prog 143 (.own b off len) = some (.int .i64 len) := len_of (by kernel_rfl : Tryz.prog.underlying 143 = some (.slice 146))
theorem ud143 : Tryz.prog.underlying 143 = some (.slice 146) := by kernel_rfl
theorem zs143 : zszO Tryz.prog 146 = some 1 := by kernel_rfl
theorem by143 : bytesO Tryz.prog 146 = some 24 := by kernel_rfl
theorem ix146 : ∀ h a i, aIndexAddr Tryz.prog h 146 a i = ixSl 1 h a i := indexAddr_of (by kernel_rfl : Tryz.prog.underlying 146 = some (.slice 4)) sz4
theorem ln146 : (∀ m k xs, aLen Tryz.prog 146 (.sl m k xs) = some (.int .i64 xs.length)) ∧ ∀ b off len, aLen Tryz.prog 146 (.own b off len) = some (.int .i64 len) := len_of (by kernel_rfl : Tryz.prog.underlying 146 = some (.slice 4))
theorem ud146 : Tryz.prog.underlying 146 = some (.slice 4) := by kernel_rfl
theorem fa157_0 : (∀ b i j, aFieldAddr Tryz.prog 157 (.ptr b i j) 0 = some (.ptr b i (j + 0))) ∧ (∀ k xs i j, aFieldAddr Tryz.prog 157 (.fptr k xs i j) 0 = some (.fptr k xs i (j + 0))) := fa_of (by kernel_rfl : faOk Tryz.prog 157 0 0 = true)
theorem fa157_1 : (∀ b i j, aFieldAddr Tryz.prog 157 (.ptr b i j) 1 = some (.ptr b i (j + 1))) ∧ (∀ k xs i j, aFieldAddr Tryz.prog 157 (.fptr k xs i j) 1 = some (.fptr k xs i (j + 1))) := fa_of (by kernel_rfl : faOk Tryz.prog 157 1 1 = true)
theorem fa158_0 : (∀ b i j, aFieldAddr Tryz.prog 158 (.ptr b i j) 0 = some (.ptr b i (j + 0))) ∧ (∀ k xs i j, aFieldAddr Tryz.prog 158 (.fptr k xs i j) 0 = some (.fptr k xs i (j + 0))) := fa_of (by kernel_rfl : faOk Tryz.prog 158 0 0 = true)
theorem fa158_1 : (∀ b i j, aFieldAddr Tryz.prog 158 (.ptr b i j) 1 = some (.ptr b i (j + 1))) ∧ (∀ k xs i j, aFieldAddr Tryz.prog 158 (.fptr k xs i j) 1 = some (.fptr k xs i (j + 1))) := fa_of (by kernel_rfl : faOk Tryz.prog 158 1 1 = true)
theorem ix179 : ∀ h a i, aIndexAddr Tryz.prog h 179 a i = ixSl 1 h a i := indexAddr_of (by kernel_rfl : Tryz.prog.underlying 179 = some (.slice 9)) sz9
theorem ln179 : (∀ m k xs, aLen Tryz.prog 179 (.sl m k xs) = some (.int .i64 xs.length)) ∧ ∀ b off len, aLen Tryz.prog 179 (.own b off len) = some (.int .i64 len) := len_of (by kernel_rfl : Tryz.prog.underlying 179 = some (.slice 9))
theorem ud179 : Tryz.prog.underlying 179 = some (.slice 9) := by kernel_rfl
theorem zs179 : zszO Tryz.prog 9 = some 1 := by kernel_rfl
theorem by179 : bytesO Tryz.prog 9 = some 16 := by kernel_rfl
theorem fa180_0 : (∀ b i j, aFieldAddr Tryz.prog 180 (.ptr b i j) 0 = some (.ptr b i (j + 0))) ∧ (∀ k xs i j, aFieldAddr Tryz.prog 180 (.fptr k xs i j) 0 = some (.fptr k xs i (j + 0))) := fa_of (by kernel_rfl : faOk Tryz.prog 180 0 0 = true)
theorem fa180_1 : (∀ b i j, aFieldAddr Tryz.prog 180 (.ptr b i j) 1 = some (.ptr b i (j + 1))) ∧ (∀ k xs i j, aFieldAddr Tryz.prog 180 (.fptr k xs i j) 1 = some (.fptr k xs i (j + 1))) := fa_of (by kernel_rfl : faOk Tryz.prog 180 1 1 = true)
theorem fa180_2 : (∀ b i j, aFieldAddr Tryz.prog 180 (.ptr b i j) 2 = some (.ptr b i (j + 2))) ∧ (∀ k xs i j, aFieldAddr Tryz.prog 180 (.fptr k xs i j) 2 = some (.fptr k xs i (j + 2))) := fa_of (by kernel_rfl : faOk Tryz.prog 180 2 2 = true)
theorem fa180_3 : (∀ b i j, aFieldAddr Tryz.prog 180 (.ptr b i j) 3 = some (.ptr b i (j + 3))) ∧ (∀ k xs i j, aFieldAddr Tryz.prog 180 (.fptr k xs i j) 3 = some (.fptr k xs i (j + 3))) := fa_of (by kernel_rfl : faOk Tryz.prog 180 3 3 = true)
theorem fa180_4 : (∀ b i j, aFieldAddr Tryz.prog 180 (.ptr b i j) 4 = some (.ptr b i (j + 4))) ∧ (∀ k xs i j, aFieldAddr Tryz.prog 180 (.fptr k xs i j) 4 = some (.fptr k xs i (j + 4))) := fa_of (by kernel_rfl : faOk Tryz.prog 180 4 4 = true)
theorem fa181_0 : (∀ b i j, aFieldAddr Tryz.prog 181 (.ptr b i j) 0 = some (.ptr b i (j + 0))) ∧ (∀ k xs i j, aFieldAddr Tryz.prog 181 (.fptr k xs i j) 0 = some (.fptr k xs i (j + 0))) := fa_of (by kernel_rfl : faOk Tryz.prog 181 0 0 = true)
theorem fa181_1 : (∀ b i j, aFieldAddr Tryz.prog 181 (.ptr b i j) 1 = some (.ptr b i (j + 1))) ∧ (∀ k xs i j, aFieldAddr Tryz.prog 181 (.fptr k xs i j) 1 = some (.fptr k xs i (j + 1))) := fa_of (by kernel_rfl : faOk Tryz.prog 181 1 1 = true)
theorem fa181_2 : (∀ b i j, aFieldAddr Tryz.prog 181 (.ptr b i j) 2 = some (.ptr b i (j + 2))) ∧ (∀ k xs i j, aFieldAddr Tryz.prog 181 (.fptr k xs i j) 2 = some (.fptr k xs i (j + 2))) := fa_of (by kernel_rfl : faOk Tryz.prog 181 2 2 = true)
theorem fa181_3 : (∀ b i j, aFieldAddr Tryz.prog 181 (.ptr b i j) 3 = some (.ptr b i (j + 3))) ∧ (∀ k xs i j, aFieldAddr Tryz.prog 181 (.fptr k xs i j) 3 = some (.fptr k xs i (j + 3))) := fa_of (by kernel_rfl : faOk Tryz.prog 181 3 3 = true)
theorem fa181_4 : (∀ b i j, aFieldAddr Tryz.prog 181 (.ptr b i j) 4 = some (.ptr b i (j + 4))) ∧ (∀ k xs i j, aFieldAddr Tryz.prog 181 (.fptr k xs i j) 4 = some (.fptr k xs i (j + 4))) := fa_of (by kernel_rfl : faOk Tryz.prog 181 4 4 = true)
theorem fa184_0 : (∀ b i j, aFieldAddr Tryz.prog 184 (.ptr b i j) 0 = some (.ptr b i (j + 0))) ∧ (∀ k xs i j, aFieldAddr Tryz.prog 184 (.fptr k xs i j) 0 = some (.fptr k xs i (j + 0))) := fa_of (by kernel_rfl : faOk Tryz.prog 184 0 0 = true)
theorem fa184_1 : (∀ b i j, aFieldAddr Tryz.prog 184 (.ptr b i j) 1 = some (.ptr b i (j + 1))) ∧ (∀ k xs i j, aFieldAddr Tryz.prog 184 (.fptr k xs i j) 1 = some (.fptr k xs i (j + 1))) := fa_of (by kernel_rfl : faOk Tryz.prog 184 1 1 = true)
theorem fa185_0 : (∀ b i j, aFieldAddr Tryz.prog 185 (.ptr b i j) 0 = some (.ptr b i (j + 0))) ∧ (∀ k xs i j, aFieldAddr Tryz.prog 185 (.fptr k xs i j) 0 = some (.fptr k xs i (j + 0))) := fa_of (by kernel_rfl : faOk Tryz.prog 185 0 0 = true)
theorem fa185_1 : (∀ b i j, aFieldAddr Tryz.prog 185 (.ptr b i j) 1 = some (.ptr b i (j + 1))) ∧ (∀ k xs i j, aFieldAddr Tryz.prog 185 (.fptr k xs i j) 1 = some (.fptr k xs i (j + 1))) := fa_of (by kernel_rfl : faOk Tryz.prog 185 1 1 = true)
theorem fa186_0 : (∀ b i j, aFieldAddr Tryz.prog 186 (.ptr b i j) 0 = some (.ptr b i (j + 0))) ∧ (∀ k xs i j, aFieldAddr Tryz.prog 186 (.fptr k xs i j) 0 = some (.fptr k xs i (j + 0))) := fa_of (by kernel_rfl : faOk Tryz.prog 186 0 0 = true)
theorem fa186_1 : (∀ b i j, aFieldAddr Tryz.prog 186 (.ptr b i j) 1 = some (.ptr b i (j + 1))) ∧ (∀ k xs i j, aFieldAddr Tryz.prog 186 (.fptr k xs i j) 1 = some (.fptr k xs i (j + 1))) := fa_of (by kernel_rfl : faOk Tryz.prog 186 1 1 = true)
theorem fa187_0 : (∀ b i j, aFieldAddr Tryz.prog 187 (.ptr b i j) 0 = some (.ptr b i (j + 0))) ∧ (∀ k xs i j, aFieldAddr Tryz.prog 187 (.fptr k xs i j) 0 = some (.fptr k xs i (j + 0))) := fa_of (by kernel_rfl : faOk Tryz.prog 187 0 0 = true)
theorem fa187_1 : (∀ b i j, aFieldAddr Tryz.prog 187 (.ptr b i j) 1 = some (.ptr b i (j + 1))) ∧ (∀ k xs i j, aFieldAddr Tryz.prog 187 (.fptr k xs i j) 1 = some (.fptr k xs i (j + 1))) := fa_of (by kernel_rfl : faOk Tryz.prog 187 1 1 = true)
theorem fa194_0 : (∀ b i j, aFieldAddr Tryz.prog 194 (.ptr b i j) 0 = some (.ptr b i (j + 0))) ∧ (∀ k xs i j, aFieldAddr Tryz.prog 194 (.fptr k xs i j) 0 = some (.fptr k xs i (j + 0))) := fa_of (by kernel_rfl : faOk Tryz.prog 194 0 0 = true)
theorem fa195_0 : (∀ b i j, aFieldAddr Tryz.prog 195 (.ptr b i j) 0 = some (.ptr b i (j + 0))) ∧ (∀ k xs i j, aFieldAddr Tryz.prog 195 (.fptr k xs i j) 0 = some (.fptr k xs i (j + 0))) := fa_of (by kernel_rfl : faOk Tryz.prog 195 0 0 = true)
theorem ix206 : ∀ h a i, aIndexAddr Tryz.prog h 206 a i = ixSl 1 h a i := indexAddr_of (by kernel_rfl : Tryz.prog.underlying 206 = some (.slice 5)) sz5
theorem ln206 : (∀ m k xs, aLen Tryz.prog 206 (.sl m k xs) = some (.int .i64 xs.length)) ∧ ∀ b off len, aLen Tryz.prog 206 (.own b off len) = some (.int .i64 len) := len_of (by kernel_rfl : Tryz.prog.underlying 206 = some (.slice 5))
theorem cv3_5 : ∀ n, aConv Tryz.prog 3 5 (.int .i64 n) = some (.int .u8 (IntKind.u8.wrap n)) := fun n => conv_int (ds := .int .i64) Tryz.prog .i64 n (by kernel_rfl) (by kernel_rfl)
theorem cv3_252 : ∀ n, aConv Tryz.prog 3 252 (.int .i64 n) = some (.int .u16 (IntKind.u16.wrap n)) := fun n => conv_int (ds := .int .i64) Tryz.prog .i64 n (by kernel_rfl) (by kernel_rfl)
theorem cv5_3 : ∀ n, aConv Tryz.prog 5 3 (.int .u8 n) = some (.int .i64 (IntKind.i64.wrap n)) := fun n => conv_int (ds := .int .u8) Tryz.prog .u8 n (by kernel_rfl) (by kernel_rfl)
theorem cv5_272 : ∀ n, aConv Tryz.prog 5 272 (.int .u8 n) = some (.int .u32 (IntKind.u32.wrap n)) := fun n => conv_int (ds := .int .u8) Tryz.prog .u8 n (by kernel_rfl) (by kernel_rfl)
theorem cv252_3 : ∀ n, aConv Tryz.prog 252 3 (.int .u16 n) = some (.int .i64 (IntKind.i64.wrap n)) := fun n => conv_int (ds := .int .u16) Tryz.prog .u16 n (by kernel_rfl) (by kernel_rfl)
noncomputable def En (G : Nat → AV) : Env := ⟨Tryz.prog, G⟩
theorem enP (G : Nat → AV) : (En G).P = Tryz.prog := rfl
theorem enG (G : Nat → AV) : (En G).G = G := rfl
theorem enM (G : Nat → AV) : (En G).P.follows .mixedOrders = true := by kernel_rfl
end Go.Proofs.YtocilianjfhifaaGreatDoor.Sm
/- Part of the proof; no condition. -/
namespace Go.Proofs.YtocilianjfhifaaGreatDoor.Bins
open Go Go.Proofs.YtocilianjfhifaaGreatDoor.Sm
structure Rng where
  lo : Int
  hi : Int
  deriving DecidableEq
def encR (r : Rng) : List AV := [.int .i64 r.lo, .int .i64 r.hi]
theorem encR_len (r : Rng) : (encR r).length = 2 := rfl
theorem encR0 (r : Rng) : (encR r)[0]? = some (.int .i64 r.lo) := rfl
theorem encR1 (r : Rng) : (encR r)[1]? = some (.int .i64 r.hi) := rfl
theorem any_step {α : Type} (p : α → Bool) (xs : List α) (k : Nat) (h : k < xs.length) : (xs.drop k).any p = (p xs[k] || (xs.drop (k+1)).any p) := by
  rw [List.drop_eq_getElem_cons h, List.any_cons]

end Go.Proofs.YtocilianjfhifaaGreatDoor.Bins
/- Contracts of Same, of the two checks of a list of ranges, of the two common-number tests; no condition. -/
set_option linter.unusedSimpArgs false
set_option maxRecDepth 8000
namespace Go.Proofs.YtocilianjfhifaaGreatDoor.Bins
open Go Go.Proofs.YtocilianjfhifaaGreatDoor.Sm

/-- the error of a list of ranges: 0, 1 or 2 -/
def bad (r : Rng) : Bool := decide (r.lo < 0) || decide (r.lo > r.hi) || decide (r.hi > 65535)
def rangesE (xs : List Rng) : Int := if xs.length > 64 then 2 else if xs.any bad then 1 else 0

theorem rangesE_big {xs : List Rng} (h : xs.length > 64) : rangesE xs = 2 := by simp [rangesE, h]
theorem rangesE_bad {xs : List Rng} (h : ¬ xs.length > 64) (hb : xs.any bad = true) : rangesE xs = 1 := by simp [rangesE, h, hb]
theorem rangesE_ok {xs : List Rng} (h : ¬ xs.length > 64) (hb : xs.any bad = false) : rangesE xs = 0 := by simp [rangesE, h, hb]

theorem al33 (h : Hp) : aAlloc Tryz.prog h 185 = some (.ptr h.length 0 0, h ++ [.live 2 [[.int .i64 0, .int .i64 0]]]) := alloc_of (row := [.int .i64 0, .int .i64 0]) (by kernel_rfl)
theorem st33 (h : Hp) (r : Rng) (row : List AV) (hr : row.length = 2) : aStore Tryz.prog (h ++ [.live 2 [row]]) 185 (.ptr h.length 0 0) (.agg (encR r)) = some (h ++ [.live 2 [encR r]]) := by
  rw [store_top (cs := encR r) rfl sz185 (by simp [hr, encR])]
  simp [splice, hr, encR]

theorem ranges_prog (G : Nat → AV) (xs : List Rng) (m : SM) (h : Hp) (hl : xs.length ≤ 1099511627776) :
    PCall (En G) 203 [.sl m 2 (xs.map encR)] h (.int .i64 (rangesE xs)) := by
  refine ACalls.pure0 rfl ?_
  refine acalls_of (H := Hint.none) (enM G) Tryz.func203 rfl (by kernel_rfl) (by kernel_rfl) (Nat.le_of_ble_eq_true (by kernel_rfl)) ?_
  show awp _ _ _ _ _ (endQ _ [.tmp 2] _)
  simp -implicitDefEqProofs only [awp_seq, awp_reg, awp_cond, seqQ_n, WW_one, WW_nil, none_md, none_fz, frz_nil, ownOp, wc_app, wcont_s, upd_app, ev_tmp, ev_const, av_int, x_move, x_assign, x_bin, x_len, holdsO_ofO, bin_gtr, frameOf_zero, ↓reduceIte, Nat.reduceEqDiff, Option.getD_some, Bool.not_false, enP, ln118, List.length_map]
  refine cond_of (fun hc => ?_) (fun hc => ?_)
  · simp -implicitDefEqProofs only [awp_seq, awp_reg, awp_ret, seqQ_n, seqQ_r, end_r, WW_one, WW_nil, none_md, none_fz, frz_nil, ownOp, wc_app, wcont_s, upd_app, ev_const, av_int, x_assign, ↓reduceIte, Option.getD_some, Bool.not_false]
    exact ⟨by rw [rangesE_big (by simp at hc; omega)], [], by simp⟩
  simp -implicitDefEqProofs only [awp_seq, awp_block, awp_reg, awp_skip, seqQ_n, WW_one, WW_nil, none_md, none_fz, frz_nil, ownOp, wc_app, wcont_s, upd_app, ev_tmp, ev_const, av_int, x_move, x_len, holdsO_ofO, frameOf_zero, ↓reduceIte, Nat.reduceEqDiff, Option.getD_some, Bool.not_false, enP, ln118, List.length_map]
  have h64 : ¬ xs.length > 64 := by simp at hc; omega
  refine awp_loop (fun n F H => ∃ k, n + k = xs.length ∧ F 8 = .sl m 2 (xs.map encR) ∧ F 9 = .int .i64 xs.length ∧ F 10 = .int .i64 (k : Nat) ∧ (∃ x, H = h ++ x) ∧ xs.any bad = (xs.drop k).any bad) xs.length ⟨0, by simp, rfl, rfl, rfl, ⟨[], by simp⟩, rfl⟩ ?_
  rintro n F H ⟨k, hk, f8, f9, f10, ⟨x, rfl⟩, hin⟩
  simp -implicitDefEqProofs only [awp_seq, awp_reg, awp_cond, seqQ_n, WW_one, WW_nil, none_md, none_fz, frz_nil, ownOp, wc_app, wcont_s, upd_app, ev_tmp, x_bin, holdsO_ofO, bin_lss, ↓reduceIte, Option.getD_some, Bool.not_false, enP, f8, f9, f10]
  refine cond_of (fun hc => ?_) (fun hc => ?_)
  · have hc' : k < xs.length := by simpa using hc
    have hs := any_step bad xs k hc'
    simp -implicitDefEqProofs only [awp_seq, awp_block, awp_reg, awp_skip, seqQ_n, WW_one, WW_nil, WW_guardE, GX_some, gdstO, none_md, none_fz, frz_nil, ownOp, wc_app, wcont_s, wcont_n, upd_app, ev_tmp, ev_const, av_int, x_move, x_alloc, x_load, x_store, x_bin, x_fieldAddr, x_indexAddr, holdsO_some, holdsO_ofO, holdsO_ofS, bin_lss, ↓reduceIte, Nat.reduceEqDiff, Nat.add_zero, Option.getD_some, Bool.not_false, enP, ix118, fa185_0, Option.getD_none, f8, f9, f10, ix_map hc', load_mapA ag185 sz185 encR_len hc', al33, st33 _ _ [.int .i64 0, .int .i64 0] rfl, load_last ag3, encR0, encR1]
    rw [hs] at hin
    have fin : bad xs[k] = true → rangesE xs = 1 := fun hb => rangesE_bad h64 (by rw [hin, hb]; rfl)
    have nxt : bad xs[k] = false → xs.any bad = (xs.drop (k+1)).any bad := fun hb => by rw [hin, hb]; rfl
    refine G1_of (fun ha => ?_) (fun ha => ?_)
    · simp -implicitDefEqProofs only [awp_seq, awp_reg, awp_ret, awp_cond, seqQ_n, seqQ_r, blk_r, rnd_r, end_r, cond_t, WW_one, WW_nil, WW_guardE, GX_some, gdstO, G1_ft, none_md, none_fz, frz_nil, ownOp, wc_app, wcont_s, upd_app, aput, ev_tmp, ev_const, av_int, av_bool, x_move, x_assign, x_pick, pick_t, ↓reduceIte, Nat.reduceEqDiff, Option.getD_some, Bool.not_false, ha]
      exact ⟨by rw [fin (by unfold bad; rw [ha]; rfl)], _, by rw [List.append_assoc]⟩
    simp -implicitDefEqProofs only [WW_one, WW_guardE, GX_some, gdstO, G1_ff, none_md, none_fz, frz_nil, ownOp, wc_app, wcont_s, upd_app, ev_tmp, ev_const, av_bool, x_move, x_pick, pick_f, x_load, x_bin, x_fieldAddr, holdsO_ofO, bin_gtr, ↓reduceIte, Nat.reduceEqDiff, Nat.add_zero, Nat.zero_add, Option.getD_some, Bool.not_false, enP, fa185_0, fa185_1, ha, load_last ag3, encR0, encR1]
    refine G1_of (fun hb => ?_) (fun hb => ?_)
    · simp -implicitDefEqProofs only [awp_seq, awp_reg, awp_ret, awp_cond, seqQ_n, seqQ_r, blk_r, rnd_r, end_r, cond_t, WW_one, WW_nil, WW_guardE, GX_some, gdstO, G1_ft, none_md, none_fz, frz_nil, ownOp, wc_app, wcont_s, upd_app, aput, ev_tmp, ev_const, av_int, av_bool, x_assign, x_pick, pick_t, ↓reduceIte, Nat.reduceEqDiff, Option.getD_some, Bool.not_false, hb]
      exact ⟨by rw [fin (by unfold bad; rw [hb]; simp)], _, by rw [List.append_assoc]⟩
    simp -implicitDefEqProofs only [awp_cond, seqQ_n, WW_one, WW_nil, WW_guardE, GX_some, gdstO, G1_ff, none_md, none_fz, frz_nil, ownOp, wc_app, wcont_s, upd_app, ev_tmp, ev_const, av_int, av_bool, x_pick, pick_f, x_load, x_bin, x_fieldAddr, holdsO_ofO, bin_gtr, ↓reduceIte, Nat.reduceEqDiff, Nat.zero_add, Option.getD_some, Bool.not_false, enP, fa185_1, hb, load_last ag3, encR0, encR1]
    refine cond_of (fun hc => ?_) (fun hc => ?_)
    · simp -implicitDefEqProofs only [awp_seq, awp_reg, awp_ret, seqQ_n, seqQ_r, blk_r, rnd_r, end_r, WW_one, WW_nil, none_md, none_fz, frz_nil, ownOp, wc_app, wcont_s, upd_app, ev_const, av_int, x_assign, ↓reduceIte, Option.getD_some, Bool.not_false]
      exact ⟨by rw [fin (by unfold bad; rw [hc]; simp)], _, by rw [List.append_assoc]⟩
    · simp -implicitDefEqProofs only [awp_reg, awp_skip, seqQ_n, blk_n, rnd_n, WW_one, WW_nil, none_md, none_fz, frz_nil, ownOp, wc_app, wcont_s, upd_app, ev_tmp, ev_const, av_int, x_move, x_bin, holdsO_ofO, bin_add, ↓reduceIte, Nat.reduceEqDiff, Option.getD_some, Bool.not_false, enP, f10, wrap_succ (show k < 9223372036854775807 by omega)]
      exact ⟨n - 1, by omega, k + 1, by omega, f8, f9, rfl, ⟨_, by rw [List.append_assoc]⟩, nxt (by unfold bad; rw [ha, hb, hc]; rfl)⟩
  · have hc' : ¬ k < xs.length := by simpa using hc
    simp -implicitDefEqProofs only [awp_seq, awp_reg, awp_ret, awp_exit, seqQ_n, seqQ_e, blk_e, rnd_e, end_r, WW_one, WW_nil, none_md, none_fz, frz_nil, ownOp, wc_app, wcont_s, upd_app, ev_const, av_int, x_assign, ↓reduceIte, Option.getD_some, Bool.not_false]
    rw [List.drop_eq_nil_of_le (by omega)] at hin
    exact ⟨by rw [rangesE_ok h64 hin], _, rfl⟩

theorem ranges_ref (G : Nat → AV) (xs : List Rng) (m : SM) (h : Hp) :
    PCall (En G) 216 [.sl m 2 (xs.map encR)] h (.int .i64 (rangesE xs)) := by
  refine acalls_of (H := Hint.none) (enM G) Tryz.func216 rfl (by kernel_rfl) (by kernel_rfl) (Nat.le_of_ble_eq_true (by kernel_rfl)) ?_
  show awp _ _ _ _ _ (endQ _ [.tmp 2] _)
  simp -implicitDefEqProofs only [awp_seq, awp_reg, awp_cond, seqQ_n, WW_one, WW_nil, none_md, none_fz, frz_nil, ownOp, wc_app, wcont_s, upd_app, ev_tmp, ev_const, av_int, x_move, x_assign, x_bin, x_len, holdsO_ofO, bin_gtr, frameOf_zero, ↓reduceIte, Nat.reduceEqDiff, Option.getD_some, Bool.not_false, enP, ln118, List.length_map]
  refine cond_of (fun hc => ?_) (fun hc => ?_)
  · simp -implicitDefEqProofs only [awp_seq, awp_reg, awp_ret, seqQ_n, seqQ_r, end_r, WW_one, WW_nil, none_md, none_fz, frz_nil, ownOp, wc_app, wcont_s, upd_app, ev_const, av_int, x_assign, ↓reduceIte, Option.getD_some, Bool.not_false]
    exact ⟨by rw [rangesE_big (by simp at hc; omega)], trivial⟩
  simp -implicitDefEqProofs only [awp_seq, awp_block, awp_reg, awp_skip, seqQ_n, WW_one, WW_nil, none_md, none_fz, frz_nil, ownOp, wc_app, wcont_s, ev_const, av_int, x_assign, Option.getD_some, Bool.not_false, List.length_map]
  have h64 : ¬ xs.length > 64 := by simp at hc; omega
  refine awp_loop (fun n F H => ∃ k, n + k = xs.length ∧ F 0 = .sl m 2 (xs.map encR) ∧ F 3 = .int .i64 (k : Nat) ∧ H = h ∧ xs.any bad = (xs.drop k).any bad) xs.length ⟨0, by simp, rfl, rfl, rfl, rfl⟩ ?_
  rintro n F H ⟨k, hk, f0, f3, rfl, hin⟩
  simp -implicitDefEqProofs only [awp_seq, awp_reg, awp_cond, seqQ_n, WW_one, WW_nil, none_md, none_fz, frz_nil, ownOp, wc_app, wcont_s, upd_app, ev_tmp, x_move, x_bin, x_len, holdsO_ofO, bin_lss, ↓reduceIte, Nat.reduceEqDiff, Option.getD_some, Bool.not_false, enP, ln118, f0, f3, List.length_map]
  refine cond_of (fun hc => ?_) (fun hc => ?_)
  · have hc' : k < xs.length := by simpa using hc
    rw [any_step bad xs k hc'] at hin
    have fin : bad xs[k] = true → rangesE xs = 1 := fun hb => rangesE_bad h64 (by rw [hin, hb]; rfl)
    have nxt : bad xs[k] = false → xs.any bad = (xs.drop (k+1)).any bad := fun hb => by rw [hin, hb]; rfl
    simp -implicitDefEqProofs only [awp_seq, awp_block, awp_skip, seqQ_n]
    refine awp_draw (by kernel_rfl) ?_
    simp -implicitDefEqProofs only [YO_f, dc_app, dcont_s, DD_one, DD_guardE, GY_some, y_move, y_load, y_bin, y_fieldAddr, y_indexAddr, gdstO, none_md, upd_app, ev_tmp, ev_const, av_int, x_load, x_bin, x_fieldAddr, x_indexAddr, holdsO_ofO, bin_lss, ↓reduceIte, Nat.reduceEqDiff, Nat.reduceAdd, Nat.add_zero, Option.getD_some, enP, ix118, fa185_0, f0, f3, ix_map hc', load_map ag3 hc', encR0, encR1]
    refine GD_of (fun ha => ?_) (fun ha => ?_)
    · simp -implicitDefEqProofs only [YO_f, dc_app, dcont_s, DD_nil, DD_one, DD_guardE, GY_some, GD_ft, y_move, y_pick, awp_seq, awp_reg, awp_ret, awp_cond, seqQ_n, seqQ_r, blk_r, rnd_r, end_r, cond_t, WW_one, WW_nil, gdstO, none_md, none_fz, frz_nil, ownOp, wc_app, wcont_s, upd_app, aput, ev_tmp, ev_const, av_int, av_bool, x_assign, x_pick, pick_t, ↓reduceIte, Nat.reduceEqDiff, Nat.reduceAdd, Option.getD_some, Bool.not_false, ha]
      exact ⟨by rw [fin (by unfold bad; rw [ha]; rfl)], trivial⟩
    simp -implicitDefEqProofs only [YO_f, dc_app, dcont_s, DD_one, DD_guardE, GY_some, GD_ff, y_move, y_pick, y_load, y_bin, y_fieldAddr, y_indexAddr, gdstO, none_md, upd_app, ev_tmp, ev_const, av_bool, x_pick, pick_f, x_load, x_bin, x_fieldAddr, x_indexAddr, holdsO_ofO, bin_gtr, ↓reduceIte, Nat.reduceEqDiff, Nat.reduceAdd, Nat.add_zero, Nat.zero_add, Option.getD_some, enP, ix118, fa185_0, fa185_1, ha, f0, f3, ix_map hc', load_map ag3 hc', encR0, encR1]
    refine GD_of (fun hb => ?_) (fun hb => ?_)
    · simp -implicitDefEqProofs only [YO_f, dc_app, dcont_s, DD_nil, DD_one, DD_guardE, GY_some, GD_ft, y_pick, awp_seq, awp_reg, awp_ret, awp_cond, seqQ_n, seqQ_r, blk_r, rnd_r, end_r, cond_t, WW_one, WW_nil, gdstO, none_md, none_fz, frz_nil, ownOp, wc_app, wcont_s, upd_app, aput, ev_tmp, ev_const, av_int, av_bool, x_assign, x_pick, pick_t, ↓reduceIte, Nat.reduceEqDiff, Nat.reduceAdd, Option.getD_some, Bool.not_false, hb]
      exact ⟨by rw [fin (by unfold bad; rw [hb]; simp)], trivial⟩
    simp -implicitDefEqProofs only [YO_f, dc_app, dcont_s, DD_nil, DD_one, DD_guardE, GY_some, GD_ff, y_move, y_pick, y_load, y_bin, y_fieldAddr, y_indexAddr, awp_cond, seqQ_n, gdstO, none_md, upd_app, ev_tmp, ev_const, av_int, av_bool, x_pick, pick_f, x_load, x_bin, x_fieldAddr, x_indexAddr, holdsO_ofO, bin_gtr, ↓reduceIte, Nat.reduceEqDiff, Nat.reduceAdd, Nat.zero_add, Option.getD_some, enP, ix118, fa185_1, hb, f0, f3, ix_map hc', load_map ag3 hc', encR0, encR1]
    refine cond_of (fun hc => ?_) (fun hc => ?_)
    · simp -implicitDefEqProofs only [awp_seq, awp_reg, awp_ret, seqQ_n, seqQ_r, blk_r, rnd_r, end_r, WW_one, WW_nil, none_md, none_fz, frz_nil, ownOp, wc_app, wcont_s, upd_app, ev_const, av_int, x_assign, ↓reduceIte, Option.getD_some, Bool.not_false]
      exact ⟨by rw [fin (by unfold bad; rw [hc]; simp)], trivial⟩
    · simp -implicitDefEqProofs only [awp_reg, awp_skip, seqQ_n, blk_n, rnd_n, WW_one, WW_nil, none_md, none_fz, frz_nil, ownOp, wc_app, wcont_s, upd_app, ev_tmp, ev_const, av_int, x_move, x_assign, x_bin, holdsO_ofO, bin_add, ↓reduceIte, Nat.reduceEqDiff, Option.getD_some, Bool.not_false, enP, f3, wrap_succ (show k < 9223372036854775807 by omega)]
      exact ⟨n - 1, by omega, k + 1, by omega, f0, rfl, trivial, nxt (by unfold bad; rw [ha, hb, hc]; rfl)⟩
  · have hc' : ¬ k < xs.length := by simpa using hc
    simp -implicitDefEqProofs only [awp_seq, awp_reg, awp_ret, awp_exit, seqQ_n, seqQ_e, blk_e, rnd_e, end_r, WW_one, WW_nil, none_md, none_fz, frz_nil, ownOp, wc_app, wcont_s, upd_app, ev_const, av_int, x_assign, ↓reduceIte, Option.getD_some, Bool.not_false]
    rw [List.drop_eq_nil_of_le (by omega)] at hin
    exact ⟨by rw [rangesE_ok h64 hin], trivial⟩
end Go.Proofs.YtocilianjfhifaaGreatDoor.Bins
/- Contracts of meet, common, sets and of the clones; no condition. -/
namespace Go.Proofs.YtocilianjfhifaaGreatDoor.Bins
open Go Go.Proofs.YtocilianjfhifaaGreatDoor.Sm

/- a bin -/
structure Rs where
  m : SM
  l : List Rng
def encRs (r : Rs) : AV := .sl r.m 2 (r.l.map encR)
def encS (r : Rs) : List AV := [encRs r]
structure Bin where
  name : ByteArray
  kind : Int
  ranges : Rs
  sm : SM
  steps : List Rs
def encB (b : Bin) : List AV := [.str b.name, .int .i64 b.kind, encRs b.ranges, .sl b.sm 1 (b.steps.map encS)]
theorem encB0 (b : Bin) : (encB b)[0]? = some (.str b.name) := rfl
theorem encB1 (b : Bin) : (encB b)[1]? = some (.int .i64 b.kind) := rfl
theorem encB2 (b : Bin) : (encB b)[2]? = some (.sl b.ranges.m 2 (b.ranges.l.map encR)) := rfl
theorem encB3 (b : Bin) : (encB b)[3]? = some (.sl b.sm 1 (b.steps.map encS)) := rfl
theorem encB_len (b : Bin) : (encB b).length = 4 := rfl
theorem encS0 (r : Rs) : (encS r)[0]? = some (.sl r.m 2 (r.l.map encR)) := rfl
theorem bxB (h : Hp) (b : Bin) : aBox h (.agg (encB b)) = some (.ptr h.length 0 0, h ++ [.live 4 [encB b]]) := rfl
theorem ldB (h : Hp) (b : Bin) : aLoad Tryz.prog (h ++ [.live 4 [encB b]]) 121 (.ptr h.length 0 0) = some (.agg (encB b)) := load_topA ag121 sz121 (by simp [encB])

def setsM (b : Bin) : SM := if b.ranges.l.length > 0 then .full else b.sm
def sets (b : Bin) : List Rs := if b.ranges.l.length > 0 then [b.ranges] else b.steps
theorem bs27 (h : Hp) (r : Rs) : aBuildSlice Tryz.prog false h 119 1 [(0, .sl r.m 2 (r.l.map encR))] = some (.sl .full 1 ([r].map encS), h) := by
  have : (rowsA 1 0 [(0, AV.sl r.m 2 (r.l.map encR))]) = some [[.sl r.m 2 (r.l.map encR)]] := rfl
  simp only [aBuildSlice, Tryz.underlying119, sz118, this]
  have hz : zszO Tryz.prog 118 = some 1 := by kernel_rfl
  simp [hz, AV.frozen, encS, encRs]
end Go.Proofs.YtocilianjfhifaaGreatDoor.Bins
/- Contracts of sets, of the clones, and of the search among lists of ranges; no condition. -/
set_option linter.unusedSimpArgs false
set_option maxRecDepth 8000
namespace Go.Proofs.YtocilianjfhifaaGreatDoor.Bins
open Go Go.Proofs.YtocilianjfhifaaGreatDoor.Sm

theorem sets_prog (G : Nat → AV) (b : Bin) (h : Hp) : PCall (En G) 202 [.agg (encB b)] h (.sl (setsM b) 1 ((sets b).map encS)) := by
  refine ACalls.pure0 rfl ?_
  refine acalls_of (H := Hint.none) (enM G) Tryz.func202 rfl (by kernel_rfl) (by kernel_rfl) (Nat.le_of_ble_eq_true (by kernel_rfl)) ?_
  show awp _ _ _ _ _ (endQ _ [.tmp 2] _)
  simp -implicitDefEqProofs only [awp_seq, awp_reg, awp_cond, seqQ_n, WW_one, WW_nil, none_md, none_fz, frz_nil, ownOp, wc_app, wcont_s, upd_app, ev_tmp, ev_const, av_int, av_nil, x_assign, x_box, x_load, x_bin, x_fieldAddr, x_len, holdsO_some, holdsO_ofO, bin_gtr, frameOf_zero, ↓reduceIte, Nat.reduceEqDiff, Nat.zero_add, Option.getD_some, Bool.not_false, enP, ln118, fa121_2, bxB, load_last ag118, encB2, List.length_map]
  refine cond_of (fun hc => ?_) (fun hc => ?_)
  · have hc' : b.ranges.l.length > 0 := by simpa using hc
    simp -implicitDefEqProofs only [evp_nil, evp_cons, awp_seq, awp_reg, awp_ret, seqQ_n, seqQ_r, end_r, WW_one, WW_nil, none_md, none_fz, frz_nil, ownOp, wc_app, wcont_s, upd_app, ev_tmp, x_assign, x_buildSlice, x_load, x_fieldAddr, holdsO_some, holdsO_ofO, List.map_cons, List.map_nil, ↓reduceIte, Nat.reduceEqDiff, Nat.zero_add, Option.getD_some, Bool.not_false, enP, fa121_2, load_last ag118, encB2, bs27]
    exact ⟨by rw [setsM, sets, if_pos hc', if_pos hc']; rfl, _, rfl⟩
  · have hc' : ¬ b.ranges.l.length > 0 := by simpa using hc
    simp -implicitDefEqProofs only [awp_seq, awp_reg, awp_skip, awp_ret, seqQ_n, end_r, WW_one, WW_nil, none_md, none_fz, frz_nil, ownOp, wc_app, wcont_s, upd_app, ev_tmp, x_assign, x_load, x_fieldAddr, holdsO_ofO, ↓reduceIte, Nat.reduceEqDiff, Nat.zero_add, Option.getD_some, Bool.not_false, enP, fa121_3, load_last ag119, encB3]
    exact ⟨by rw [setsM, sets, if_neg hc', if_neg hc'], _, rfl⟩
theorem sets_ref (G : Nat → AV) (b : Bin) (h : Hp) : PCall (En G) 165 [.agg (encB b)] h (.sl (setsM b) 1 ((sets b).map encS)) := by
  refine ACalls.pure0 rfl ?_
  refine acalls_of (H := Hint.none) (enM G) Tryz.func165 rfl (by kernel_rfl) (by kernel_rfl) (Nat.le_of_ble_eq_true (by kernel_rfl)) ?_
  show awp _ _ _ _ _ (endQ _ [.tmp 2] _)
  simp -implicitDefEqProofs only [awp_seq, awp_reg, awp_cond, seqQ_n, WW_one, WW_nil, none_md, none_fz, frz_nil, ownOp, wc_app, wcont_s, upd_app, ev_tmp, ev_const, av_int, av_nil, x_assign, x_box, x_load, x_bin, x_fieldAddr, x_len, holdsO_some, holdsO_ofO, bin_gtr, frameOf_zero, ↓reduceIte, Nat.reduceEqDiff, Nat.zero_add, Option.getD_some, Bool.not_false, enP, ln118, fa121_2, bxB, load_last ag118, encB2, List.length_map]
  refine cond_of (fun hc => ?_) (fun hc => ?_)
  · have hc' : b.ranges.l.length > 0 := by simpa using hc
    simp -implicitDefEqProofs only [evp_nil, evp_cons, awp_seq, awp_reg, awp_ret, seqQ_n, seqQ_r, end_r, WW_one, WW_nil, none_md, none_fz, frz_nil, ownOp, wc_app, wcont_s, upd_app, ev_tmp, x_assign, x_buildSlice, x_load, x_fieldAddr, holdsO_some, holdsO_ofO, List.map_cons, List.map_nil, ↓reduceIte, Nat.reduceEqDiff, Nat.zero_add, Option.getD_some, Bool.not_false, enP, fa121_2, load_last ag118, encB2, bs27]
    exact ⟨by rw [setsM, sets, if_pos hc', if_pos hc']; rfl, _, rfl⟩
  · have hc' : ¬ b.ranges.l.length > 0 := by simpa using hc
    simp -implicitDefEqProofs only [awp_seq, awp_reg, awp_skip, awp_ret, seqQ_n, end_r, WW_one, WW_nil, none_md, none_fz, frz_nil, ownOp, wc_app, wcont_s, upd_app, ev_tmp, x_assign, x_load, x_fieldAddr, holdsO_ofO, ↓reduceIte, Nat.reduceEqDiff, Nat.zero_add, Option.getD_some, Bool.not_false, enP, fa121_3, load_last ag119, encB3]
    exact ⟨by rw [setsM, sets, if_neg hc', if_neg hc'], _, rfl⟩

theorem cok (f : FuncId) (G : Nat → AV) (hf : (match Tryz.prog.funcs[f]? with | some fn => fn.body.isSome && !(fn.name == "runtime.NumGoroutine") | none => false) = true) : CallOk (En G).P f := by
  have he : (En G).P = Tryz.prog := rfl
  unfold CallOk
  rw [he]
  cases hx : Tryz.prog.funcs[f]? with
  | none => rw [hx] at hf; cases hf
  | some fn =>
    rw [hx] at hf
    simp at hf
    exact ⟨fn, rfl, by simpa using hf.1, by simpa using hf.2⟩

def encI (n : Int) : List AV := [.int .i64 n]
theorem encI0 (n : Int) : (encI n)[0]? = some (.int .i64 n) := rfl
theorem empty_fn (G : Nat → AV) (r : Rs) (h : Hp) : PCall (En G) 235 [.sl r.m 2 (r.l.map encR)] h (.bool (decide (r.l.length = 0))) := by
  refine acalls_of (H := Hint.none) (enM G) Tryz.func235 rfl (by kernel_rfl) (by kernel_rfl) (Nat.le_of_ble_eq_true (by kernel_rfl)) ?_
  show awp _ _ _ _ _ (endQ _ [.tmp 2] _)
  simp -implicitDefEqProofs only [awp_seq, awp_reg, awp_ret, seqQ_n, end_r, WW_one, WW_nil, none_md, none_fz, frz_nil, ownOp, wc_app, wcont_s, upd_app, ev_tmp, ev_const, av_int, av_bool, x_move, x_assign, x_bin, x_len, holdsO_ofO, bin_eql, frameOf_zero, ↓reduceIte, Nat.reduceEqDiff, Option.getD_some, Bool.not_false, enP, ln118, List.length_map]
  refine ⟨?_, trivial⟩
  congr 1
  rw [Bool.eq_iff_iff]; simp

theorem indexFunc27 (G : Nat → AV) (xs : List Rs) (m : SM) (fid : FuncId) (caps : List AV) (p : Rs → Bool) (h : Hp) (hl : xs.length ≤ 1099511627776)
    (hf : ∀ r, PCall (En G) fid (.sl r.m 2 (r.l.map encR) :: caps) h (.bool (p r))) :
    PCall (En G) 260 [.sl m 1 (xs.map encS), .fn (.func fid) [] caps] h (.int .i64 (match xs.findIdx? p with | some i => (i : Int) | none => -1)) := by
  refine acalls_of (H := Hint.none) (enM G) Tryz.func260 rfl (by kernel_rfl) (by kernel_rfl) (Nat.le_of_ble_eq_true (by kernel_rfl)) ?_
  show awp _ _ _ _ _ (endQ _ [.tmp 4] _)
  simp -implicitDefEqProofs only [awp_seq, awp_block, awp_reg, seqQ_n, WW_one, WW_nil, none_md, none_fz, frz_nil, ownOp, wc_app, wcont_s, upd_app, ev_tmp, ev_const, av_int, x_move, x_assign, x_len, holdsO_ofO, frameOf_zero, ↓reduceIte, Nat.reduceEqDiff, Option.getD_some, Bool.not_false, enP, ln119, List.length_map]
  refine awp_loop (fun n F H => ∃ k, n + k = xs.length ∧ F 0 = .sl m 1 (xs.map encS) ∧ F 1 = .fn (.func fid) [] caps ∧ F 7 = .int .i64 xs.length ∧ F 8 = .int .i64 (k : Nat) ∧ H = h ∧ (xs.take k).all (fun r => !p r) = true) xs.length ⟨0, by simp, rfl, rfl, rfl, rfl, rfl, rfl⟩ ?_
  rintro n F H ⟨k, hk, f0, f1, f7, f8, rfl, hin⟩
  simp -implicitDefEqProofs only [awp_seq, awp_reg, awp_cond, seqQ_n, WW_one, WW_nil, none_md, none_fz, frz_nil, ownOp, wc_app, wcont_s, upd_app, ev_tmp, x_bin, holdsO_ofO, bin_lss, ↓reduceIte, Option.getD_some, Bool.not_false, enP, f0, f1, f7, f8, List.length_map]
  refine cond_of (fun hc => ?_) (fun hc => ?_)
  · have hc' : k < xs.length := by simpa using hc
    simp -implicitDefEqProofs only [awp_seq, awp_block, awp_reg, awp_skip, seqQ_n, WW_one, WW_nil, none_md, none_fz, frz_nil, ownOp, wc_app, wcont_s, upd_app, ev_tmp, x_move, x_assign, x_load, x_indexAddr, X1_call, callA_fn, holdsO_ofO, List.map_cons, List.map_nil, List.nil_append, List.cons_append, ↓reduceIte, Nat.reduceEqDiff, Option.getD_some, Bool.not_false, enP, ix119, f0, f1, f7, f8, ix_map hc', load_map ag118 hc', encS0]
    refine (hf _).use ?_
    simp -implicitDefEqProofs only [awp_cond, seqQ_n, WW_nil, wcont_s, upd_app, ev_tmp, ↓reduceIte]
    refine cond_of (fun hb => ?_) (fun hb => ?_)
    · simp -implicitDefEqProofs only [awp_seq, awp_reg, awp_ret, seqQ_n, seqQ_r, blk_r, rnd_r, end_r, WW_one, WW_nil, none_md, none_fz, frz_nil, ownOp, wc_app, wcont_s, upd_app, ev_tmp, x_move, x_assign, ↓reduceIte, Nat.reduceEqDiff, Option.getD_some, Bool.not_false]
      refine ⟨?_, trivial⟩
      rw [List.findIdx?_eq_some_iff_getElem.2 ⟨hc', hb, fun j hj => by
        rw [List.all_eq_true] at hin
        have := hin xs[j] (by rw [List.mem_take_iff_getElem]; exact ⟨j, by omega, rfl⟩)
        simpa using this⟩]
    · simp -implicitDefEqProofs only [awp_reg, awp_skip, seqQ_n, blk_n, rnd_n, WW_one, WW_nil, none_md, none_fz, frz_nil, ownOp, wc_app, wcont_s, upd_app, ev_tmp, ev_const, av_int, x_move, x_bin, holdsO_ofO, bin_add, ↓reduceIte, Nat.reduceEqDiff, Option.getD_some, Bool.not_false, enP, f8, wrap_succ (show k < 9223372036854775807 by omega)]
      refine ⟨n - 1, by omega, k + 1, by omega, f0, f1, f7, rfl, trivial, ?_⟩
      rw [List.take_succ_eq_append_getElem hc', List.all_append, hin]
      simp only [List.all_cons, List.all_nil, hb]; rfl
  · have hc' : ¬ k < xs.length := by simpa using hc
    simp -implicitDefEqProofs only [awp_seq, awp_reg, awp_ret, awp_exit, seqQ_n, seqQ_e, blk_e, rnd_e, end_r, WW_one, WW_nil, none_md, none_fz, frz_nil, ownOp, wc_app, wcont_s, upd_app, ev_const, av_int, x_assign, ↓reduceIte, Option.getD_some, Bool.not_false]
    refine ⟨?_, trivial⟩
    rw [List.take_of_length_le (by omega)] at hin
    rw [List.findIdx?_eq_none_iff.2 (by simpa using hin)]

theorem containsFunc27 (G : Nat → AV) (xs : List Rs) (m : SM) (fid : FuncId) (caps : List AV) (p : Rs → Bool) (h : Hp) (hl : xs.length ≤ 1099511627776)
    (hf : ∀ r, PCall (En G) fid (.sl r.m 2 (r.l.map encR) :: caps) h (.bool (p r))) :
    PCall (En G) 234 [.sl m 1 (xs.map encS), .fn (.func fid) [] caps] h (.bool (xs.any p)) := by
  refine acalls_of (H := Hint.none) (enM G) Tryz.func234 rfl (by kernel_rfl) (by kernel_rfl) (Nat.le_of_ble_eq_true (by kernel_rfl)) ?_
  show awp _ _ _ _ _ (endQ _ [.tmp 4] _)
  simp -implicitDefEqProofs only [awp_seq, awp_reg, seqQ_n, WW_one, WW_nil, none_md, none_fz, frz_nil, ownOp, wc_app, wcont_s, upd_app, ev_tmp, ev_const, ev_func, av_bool, x_move, x_assign, X1_call, callA_fn, frameOf_zero, frameOf_succ, List.map_cons, List.map_nil, List.append_nil, ↓reduceIte, Nat.reduceEqDiff, Option.getD_some, Bool.not_false, enP]
  refine (indexFunc27 G xs m fid caps p h hl hf).use ?_
  simp -implicitDefEqProofs only [awp_ret, seqQ_n, end_r, WW_one, WW_nil, none_md, none_fz, frz_nil, ownOp, wc_app, wcont_s, upd_app, ev_tmp, ev_const, av_int, x_assign, x_bin, holdsO_ofO, bin_geq, ↓reduceIte, Option.getD_some, Bool.not_false, enP]
  refine ⟨?_, trivial⟩
  cases hx : xs.findIdx? p with
  | some i =>
    obtain ⟨h1, h2, _⟩ := List.findIdx?_eq_some_iff_getElem.1 hx
    have : xs.any p = true := List.any_eq_true.2 ⟨xs[i], by simp, h2⟩
    simp [this]
  | none =>
    have : xs.any p = false := by
      rw [List.findIdx?_eq_none_iff] at hx
      rw [List.any_eq_false]; intro x hx2; simp [hx x hx2]
    simp [this]
end Go.Proofs.YtocilianjfhifaaGreatDoor.Bins
/- Contracts of the lexer's functions on names, of the program and of the reference; no condition. -/
set_option linter.unusedSimpArgs false
set_option maxRecDepth 8000
namespace Go.Proofs.YtocilianjfhifaaGreatDoor.Bins
open Go Go.Proofs.YtocilianjfhifaaGreatDoor.Sm

def lowB (n : Int) : Bool := decide (n ≥ 97) && decide (n ≤ 122)
def digB (n : Int) : Bool := decide (n ≥ 48) && decide (n ≤ 57)
def folB (n : Int) : Bool := lowB n || digB n || (decide (n ≥ 65) && decide (n ≤ 90)) || n == 95

theorem lower_prog (G : Nat → AV) (n : Int) (h : Hp) : PCall (En G) 227 [.int .i32 n] h (.bool (lowB n)) := by
  refine acalls_of (H := Hint.none) (enM G) Tryz.func227 rfl (by kernel_rfl) (by kernel_rfl) (Nat.le_of_ble_eq_true (by kernel_rfl)) ?_
  show awp _ _ _ _ _ (endQ _ [.tmp 2] _)
  simp -implicitDefEqProofs only [awp_seq, awp_reg, seqQ_n, WW_one, WW_nil, WW_guardE, GX_some, gdstO, none_md, none_fz, frz_nil, ownOp, wc_app, wcont_s, upd_app, ev_tmp, ev_const, av_int, av_bool, x_move, x_assign, x_bin, holdsO_ofO, bin_geq, frameOf_zero, ↓reduceIte, Nat.reduceEqDiff, Option.getD_some, Bool.not_false, enP]
  refine G1_of (fun ha => ?_) (fun ha => ?_)
  · simp -implicitDefEqProofs only [awp_ret, seqQ_n, end_r, WW_one, WW_nil, WW_guardE, GX_some, gdstO, G1_tt, none_md, none_fz, frz_nil, ownOp, wc_app, wcont_s, upd_app, ev_tmp, ev_const, av_int, av_bool, x_move, x_assign, x_pick, pick_t, x_bin, holdsO_ofO, bin_leq, frameOf_zero, ↓reduceIte, Nat.reduceEqDiff, Option.getD_some, Bool.not_false, enP, ha]
    exact ⟨by unfold lowB; rw [ha]; rfl, trivial⟩
  · simp -implicitDefEqProofs only [awp_ret, seqQ_n, end_r, WW_one, WW_nil, WW_guardE, GX_some, gdstO, G1_tf, none_md, none_fz, frz_nil, ownOp, wc_app, wcont_s, upd_app, aput, ev_tmp, ev_const, av_bool, x_assign, x_pick, pick_f, ↓reduceIte, Nat.reduceEqDiff, Option.getD_some, Bool.not_false, ha]
    exact ⟨by unfold lowB; rw [ha]; rfl, trivial⟩
theorem digit_prog (G : Nat → AV) (n : Int) (h : Hp) : PCall (En G) 256 [.int .i32 n] h (.bool (digB n)) := by
  refine acalls_of (H := Hint.none) (enM G) Tryz.func256 rfl (by kernel_rfl) (by kernel_rfl) (Nat.le_of_ble_eq_true (by kernel_rfl)) ?_
  show awp _ _ _ _ _ (endQ _ [.tmp 2] _)
  simp -implicitDefEqProofs only [awp_seq, awp_reg, seqQ_n, WW_one, WW_nil, WW_guardE, GX_some, gdstO, none_md, none_fz, frz_nil, ownOp, wc_app, wcont_s, upd_app, ev_tmp, ev_const, av_int, av_bool, x_move, x_assign, x_bin, holdsO_ofO, bin_geq, frameOf_zero, ↓reduceIte, Nat.reduceEqDiff, Option.getD_some, Bool.not_false, enP]
  refine G1_of (fun ha => ?_) (fun ha => ?_)
  · simp -implicitDefEqProofs only [awp_ret, seqQ_n, end_r, WW_one, WW_nil, WW_guardE, GX_some, gdstO, G1_tt, none_md, none_fz, frz_nil, ownOp, wc_app, wcont_s, upd_app, ev_tmp, ev_const, av_int, av_bool, x_move, x_assign, x_pick, pick_t, x_bin, holdsO_ofO, bin_leq, frameOf_zero, ↓reduceIte, Nat.reduceEqDiff, Option.getD_some, Bool.not_false, enP, ha]
    exact ⟨by unfold digB; rw [ha]; rfl, trivial⟩
  · simp -implicitDefEqProofs only [awp_ret, seqQ_n, end_r, WW_one, WW_nil, WW_guardE, GX_some, gdstO, G1_tf, none_md, none_fz, frz_nil, ownOp, wc_app, wcont_s, upd_app, aput, ev_tmp, ev_const, av_bool, x_assign, x_pick, pick_f, ↓reduceIte, Nat.reduceEqDiff, Option.getD_some, Bool.not_false, ha]
    exact ⟨by unfold digB; rw [ha]; rfl, trivial⟩
theorem small_ref (G : Nat → AV) (n : Int) (h : Hp) : PCall (En G) 213 [.int .u8 n] h (.bool (lowB n)) := by
  refine acalls_of (H := Hint.none) (enM G) Tryz.func213 rfl (by kernel_rfl) (by kernel_rfl) (Nat.le_of_ble_eq_true (by kernel_rfl)) ?_
  show awp _ _ _ _ _ (endQ _ [.tmp 2] _)
  simp -implicitDefEqProofs only [awp_seq, awp_reg, seqQ_n, WW_one, WW_nil, WW_guardE, GX_some, gdstO, none_md, none_fz, frz_nil, ownOp, wc_app, wcont_s, upd_app, ev_tmp, ev_const, av_int, av_bool, x_move, x_assign, x_bin, holdsO_ofO, bin_geq, frameOf_zero, ↓reduceIte, Nat.reduceEqDiff, Option.getD_some, Bool.not_false, enP]
  refine G1_of (fun ha => ?_) (fun ha => ?_)
  · simp -implicitDefEqProofs only [awp_ret, seqQ_n, end_r, WW_one, WW_nil, WW_guardE, GX_some, gdstO, G1_tt, none_md, none_fz, frz_nil, ownOp, wc_app, wcont_s, upd_app, ev_tmp, ev_const, av_int, av_bool, x_move, x_assign, x_pick, pick_t, x_bin, holdsO_ofO, bin_leq, frameOf_zero, ↓reduceIte, Nat.reduceEqDiff, Option.getD_some, Bool.not_false, enP, ha]
    exact ⟨by unfold lowB; rw [ha]; rfl, trivial⟩
  · simp -implicitDefEqProofs only [awp_ret, seqQ_n, end_r, WW_one, WW_nil, WW_guardE, GX_some, gdstO, G1_tf, none_md, none_fz, frz_nil, ownOp, wc_app, wcont_s, upd_app, aput, ev_tmp, ev_const, av_bool, x_assign, x_pick, pick_f, ↓reduceIte, Nat.reduceEqDiff, Option.getD_some, Bool.not_false, ha]
    exact ⟨by unfold lowB; rw [ha]; rfl, trivial⟩
theorem digit_ref (G : Nat → AV) (n : Int) (h : Hp) : PCall (En G) 245 [.int .u8 n] h (.bool (digB n)) := by
  refine acalls_of (H := Hint.none) (enM G) Tryz.func245 rfl (by kernel_rfl) (by kernel_rfl) (Nat.le_of_ble_eq_true (by kernel_rfl)) ?_
  show awp _ _ _ _ _ (endQ _ [.tmp 2] _)
  simp -implicitDefEqProofs only [awp_seq, awp_reg, seqQ_n, WW_one, WW_nil, WW_guardE, GX_some, gdstO, none_md, none_fz, frz_nil, ownOp, wc_app, wcont_s, upd_app, ev_tmp, ev_const, av_int, av_bool, x_move, x_assign, x_bin, holdsO_ofO, bin_geq, frameOf_zero, ↓reduceIte, Nat.reduceEqDiff, Option.getD_some, Bool.not_false, enP]
  refine G1_of (fun ha => ?_) (fun ha => ?_)
  · simp -implicitDefEqProofs only [awp_ret, seqQ_n, end_r, WW_one, WW_nil, WW_guardE, GX_some, gdstO, G1_tt, none_md, none_fz, frz_nil, ownOp, wc_app, wcont_s, upd_app, ev_tmp, ev_const, av_int, av_bool, x_move, x_assign, x_pick, pick_t, x_bin, holdsO_ofO, bin_leq, frameOf_zero, ↓reduceIte, Nat.reduceEqDiff, Option.getD_some, Bool.not_false, enP, ha]
    exact ⟨by unfold digB; rw [ha]; rfl, trivial⟩
  · simp -implicitDefEqProofs only [awp_ret, seqQ_n, end_r, WW_one, WW_nil, WW_guardE, GX_some, gdstO, G1_tf, none_md, none_fz, frz_nil, ownOp, wc_app, wcont_s, upd_app, aput, ev_tmp, ev_const, av_bool, x_assign, x_pick, pick_f, ↓reduceIte, Nat.reduceEqDiff, Option.getD_some, Bool.not_false, ha]
    exact ⟨by unfold digB; rw [ha]; rfl, trivial⟩
theorem follows_prog (G : Nat → AV) (n : Int) (h : Hp) : PCall (En G) 228 [.int .i32 n] h (.bool (folB n)) := by
  refine acalls_of (H := Hint.none) (enM G) Tryz.func228 rfl (by kernel_rfl) (by kernel_rfl) (Nat.le_of_ble_eq_true (by kernel_rfl)) ?_
  show awp _ _ _ _ _ (endQ _ [.tmp 2] _)
  simp -implicitDefEqProofs only [awp_seq, awp_reg, seqQ_n, WW_one, WW_nil, none_md, none_fz, frz_nil, ownOp, wc_app, wcont_s, upd_app, ev_tmp, ev_const, ev_func, av_bool, x_move, x_assign, X1_call, callA_fn, frameOf_zero, List.map_cons, List.map_nil, List.append_nil, ↓reduceIte, Nat.reduceEqDiff, Option.getD_some, Bool.not_false, enP]
  refine (lower_prog G n h).use ?_
  simp -implicitDefEqProofs only [WW_one, WW_guardE, GX_some, gdstO, none_md, none_fz, frz_nil, ownOp, wc_app, wcont_s, upd_app, ev_tmp, x_move, ↓reduceIte, Option.getD_some, Bool.not_false]
  refine G1_of (fun ha => ?_) (fun ha => ?_)
  · simp -implicitDefEqProofs only [awp_ret, seqQ_n, end_r, WW_one, WW_nil, WW_guardE, GX_some, gdstO, G1_ft, G1_u, none_md, none_fz, frz_nil, ownOp, wc_app, wcont_s, upd_app, aput, ev_tmp, ev_const, av_bool, x_move, x_assign, x_pick, pick_t, ↓reduceIte, Nat.reduceEqDiff, Option.getD_some, Bool.not_false, ha]
    exact ⟨by unfold folB; rw [ha]; rfl, trivial⟩
  simp -implicitDefEqProofs only [WW_guardE, GX_some, gdstO, G1_ff, none_md, none_fz, frz_nil, ownOp, wc_app, wcont_s, upd_app, ev_tmp, ev_func, x_move, X1_call, callA_fn, frameOf_zero, List.map_cons, List.map_nil, List.append_nil, ↓reduceIte, Nat.reduceEqDiff, Option.getD_some, Bool.not_false, ha]
  refine (digit_prog G n h).use ?_
  simp -implicitDefEqProofs only [WW_one, WW_guardE, GX_some, gdstO, none_md, none_fz, frz_nil, ownOp, wc_app, wcont_s, upd_app, ev_tmp, ev_const, av_bool, x_move, x_pick, pick_f, ↓reduceIte, Nat.reduceEqDiff, Option.getD_some, Bool.not_false]
  refine G1_of (fun hb => ?_) (fun hb => ?_)
  · simp -implicitDefEqProofs only [awp_ret, seqQ_n, end_r, WW_one, WW_nil, WW_guardE, GX_some, gdstO, G1_ft, G1_u, none_md, none_fz, frz_nil, ownOp, wc_app, wcont_s, upd_app, aput, ev_tmp, ev_const, av_bool, x_move, x_assign, x_pick, pick_t, ↓reduceIte, Nat.reduceEqDiff, Option.getD_some, Bool.not_false, hb]
    exact ⟨by unfold folB; rw [ha, hb]; rfl, trivial⟩
  simp -implicitDefEqProofs only [WW_guardE, GX_some, gdstO, G1_ff, none_md, none_fz, frz_nil, ownOp, wc_app, wcont_s, upd_app, ev_tmp, ev_const, av_int, x_move, x_bin, holdsO_ofO, bin_geq, frameOf_zero, ↓reduceIte, Nat.reduceEqDiff, Option.getD_some, Bool.not_false, enP, hb]
  refine G1_of (fun hc => ?_) (fun hc => ?_)
  · simp -implicitDefEqProofs only [WW_one, WW_guardE, GX_some, gdstO, G1_tt, G1_ff, none_md, none_fz, frz_nil, ownOp, wc_app, wcont_s, upd_app, ev_tmp, ev_const, av_int, av_bool, x_move, x_pick, pick_t, pick_f, x_bin, holdsO_ofO, bin_leq, frameOf_zero, ↓reduceIte, Nat.reduceEqDiff, Option.getD_some, Bool.not_false, enP, hc]
    refine G1_of (fun hd => ?_) (fun hd => ?_)
    · simp -implicitDefEqProofs only [awp_ret, seqQ_n, end_r, WW_one, WW_nil, WW_guardE, GX_some, gdstO, G1_ft, none_md, none_fz, frz_nil, ownOp, wc_app, wcont_s, upd_app, aput, ev_tmp, ev_const, av_bool, x_assign, x_pick, pick_t, ↓reduceIte, Nat.reduceEqDiff, Option.getD_some, Bool.not_false, hd]
      exact ⟨by unfold folB; rw [ha, hb, hc, hd]; rfl, trivial⟩
    · simp -implicitDefEqProofs only [awp_ret, seqQ_n, end_r, WW_one, WW_nil, WW_guardE, GX_some, gdstO, G1_ff, none_md, none_fz, frz_nil, ownOp, wc_app, wcont_s, upd_app, ev_tmp, ev_const, av_int, av_bool, x_move, x_assign, x_pick, pick_f, x_bin, holdsO_ofO, bin_eql, frameOf_zero, ↓reduceIte, Nat.reduceEqDiff, Option.getD_some, Bool.not_false, enP, hd]
      exact ⟨by unfold folB; rw [ha, hb, hc, hd]; rfl, trivial⟩
  · simp -implicitDefEqProofs only [awp_ret, seqQ_n, end_r, WW_one, WW_nil, WW_guardE, GX_some, gdstO, G1_ff, G1_tf, none_md, none_fz, frz_nil, ownOp, wc_app, wcont_s, upd_app, aput, ev_tmp, ev_const, av_int, av_bool, x_move, x_assign, x_pick, pick_f, x_bin, holdsO_ofO, bin_eql, frameOf_zero, ↓reduceIte, Nat.reduceEqDiff, Option.getD_some, Bool.not_false, enP, hc]
    exact ⟨by unfold folB; rw [ha, hb, hc]; rfl, trivial⟩
theorem inner_ref (G : Nat → AV) (n : Int) (h : Hp) : PCall (En G) 215 [.int .u8 n] h (.bool (folB n)) := by
  refine acalls_of (H := Hint.none) (enM G) Tryz.func215 rfl (by kernel_rfl) (by kernel_rfl) (Nat.le_of_ble_eq_true (by kernel_rfl)) ?_
  show awp _ _ _ _ _ (endQ _ [.tmp 2] _)
  simp -implicitDefEqProofs only [awp_seq, awp_reg, seqQ_n, WW_one, WW_nil, none_md, none_fz, frz_nil, ownOp, wc_app, wcont_s, upd_app, ev_tmp, ev_const, ev_func, av_bool, x_move, x_assign, X1_call, callA_fn, frameOf_zero, List.map_cons, List.map_nil, List.append_nil, ↓reduceIte, Nat.reduceEqDiff, Option.getD_some, Bool.not_false, enP]
  refine (small_ref G n h).use ?_
  simp -implicitDefEqProofs only [WW_one, WW_guardE, GX_some, gdstO, none_md, none_fz, frz_nil, ownOp, wc_app, wcont_s, upd_app, ev_tmp, x_move, ↓reduceIte, Option.getD_some, Bool.not_false]
  refine G1_of (fun ha => ?_) (fun ha => ?_)
  · simp -implicitDefEqProofs only [awp_ret, seqQ_n, end_r, WW_one, WW_nil, WW_guardE, GX_some, gdstO, G1_ft, G1_u, none_md, none_fz, frz_nil, ownOp, wc_app, wcont_s, upd_app, aput, ev_tmp, ev_const, av_bool, x_move, x_assign, x_pick, pick_t, ↓reduceIte, Nat.reduceEqDiff, Option.getD_some, Bool.not_false, ha]
    exact ⟨by unfold folB; rw [ha]; rfl, trivial⟩
  simp -implicitDefEqProofs only [WW_guardE, GX_some, gdstO, G1_ff, none_md, none_fz, frz_nil, ownOp, wc_app, wcont_s, upd_app, ev_tmp, ev_func, x_move, X1_call, callA_fn, frameOf_zero, List.map_cons, List.map_nil, List.append_nil, ↓reduceIte, Nat.reduceEqDiff, Option.getD_some, Bool.not_false, ha]
  refine (digit_ref G n h).use ?_
  simp -implicitDefEqProofs only [WW_one, WW_guardE, GX_some, gdstO, none_md, none_fz, frz_nil, ownOp, wc_app, wcont_s, upd_app, ev_tmp, ev_const, av_bool, x_move, x_pick, pick_f, ↓reduceIte, Nat.reduceEqDiff, Option.getD_some, Bool.not_false]
  refine G1_of (fun hb => ?_) (fun hb => ?_)
  · simp -implicitDefEqProofs only [awp_ret, seqQ_n, end_r, WW_one, WW_nil, WW_guardE, GX_some, gdstO, G1_ft, G1_u, none_md, none_fz, frz_nil, ownOp, wc_app, wcont_s, upd_app, aput, ev_tmp, ev_const, av_bool, x_move, x_assign, x_pick, pick_t, ↓reduceIte, Nat.reduceEqDiff, Option.getD_some, Bool.not_false, hb]
    exact ⟨by unfold folB; rw [ha, hb]; rfl, trivial⟩
  simp -implicitDefEqProofs only [WW_guardE, GX_some, gdstO, G1_ff, none_md, none_fz, frz_nil, ownOp, wc_app, wcont_s, upd_app, ev_tmp, ev_const, av_int, x_move, x_bin, holdsO_ofO, bin_geq, frameOf_zero, ↓reduceIte, Nat.reduceEqDiff, Option.getD_some, Bool.not_false, enP, hb]
  refine G1_of (fun hc => ?_) (fun hc => ?_)
  · simp -implicitDefEqProofs only [WW_one, WW_guardE, GX_some, gdstO, G1_tt, G1_ff, none_md, none_fz, frz_nil, ownOp, wc_app, wcont_s, upd_app, ev_tmp, ev_const, av_int, av_bool, x_move, x_pick, pick_t, pick_f, x_bin, holdsO_ofO, bin_leq, frameOf_zero, ↓reduceIte, Nat.reduceEqDiff, Option.getD_some, Bool.not_false, enP, hc]
    refine G1_of (fun hd => ?_) (fun hd => ?_)
    · simp -implicitDefEqProofs only [awp_ret, seqQ_n, end_r, WW_one, WW_nil, WW_guardE, GX_some, gdstO, G1_ft, none_md, none_fz, frz_nil, ownOp, wc_app, wcont_s, upd_app, aput, ev_tmp, ev_const, av_bool, x_assign, x_pick, pick_t, ↓reduceIte, Nat.reduceEqDiff, Option.getD_some, Bool.not_false, hd]
      exact ⟨by unfold folB; rw [ha, hb, hc, hd]; rfl, trivial⟩
    · simp -implicitDefEqProofs only [awp_ret, seqQ_n, end_r, WW_one, WW_nil, WW_guardE, GX_some, gdstO, G1_ff, none_md, none_fz, frz_nil, ownOp, wc_app, wcont_s, upd_app, ev_tmp, ev_const, av_int, av_bool, x_move, x_assign, x_pick, pick_f, x_bin, holdsO_ofO, bin_eql, frameOf_zero, ↓reduceIte, Nat.reduceEqDiff, Option.getD_some, Bool.not_false, enP, hd]
      exact ⟨by unfold folB; rw [ha, hb, hc, hd]; rfl, trivial⟩
  · simp -implicitDefEqProofs only [awp_ret, seqQ_n, end_r, WW_one, WW_nil, WW_guardE, GX_some, gdstO, G1_ff, G1_tf, none_md, none_fz, frz_nil, ownOp, wc_app, wcont_s, upd_app, aput, ev_tmp, ev_const, av_int, av_bool, x_move, x_assign, x_pick, pick_f, x_bin, holdsO_ofO, bin_eql, frameOf_zero, ↓reduceIte, Nat.reduceEqDiff, Option.getD_some, Bool.not_false, enP, hc]
    exact ⟨by unfold folB; rw [ha, hb, hc]; rfl, trivial⟩

/- strings in lists -/
def encStr (s : ByteArray) : List AV := [.str s]
theorem encStr0 (s : ByteArray) : (encStr s)[0]? = some (.str s) := rfl
def hasS (xs : List ByteArray) (v : ByteArray) : Bool := xs.any fun u => v.toList == u.toList

theorem has_ref (G : Nat → AV) (xs : List ByteArray) (m : SM) (v : ByteArray) (h : Hp) (hl : xs.length ≤ 1099511627776) :
    PCall (En G) 243 [.sl m 1 (xs.map encStr), .str v] h (.bool (hasS xs v)) := by
  refine acalls_of (H := Hint.none) (enM G) Tryz.func243 rfl (by kernel_rfl) (by kernel_rfl) (Nat.le_of_ble_eq_true (by kernel_rfl)) ?_
  show awp _ _ _ _ _ (endQ _ [.tmp 4] _)
  simp -implicitDefEqProofs only [awp_seq, awp_block, awp_reg, seqQ_n, WW_one, WW_nil, none_md, none_fz, frz_nil, ownOp, wc_app, wcont_s, ev_const, av_int, av_bool, x_assign, Option.getD_some, Bool.not_false, enP]
  refine awp_loop (fun n F H => ∃ k, n + k = xs.length ∧ F 0 = .sl m 1 (xs.map encStr) ∧ F 1 = .str v ∧ F 5 = .int .i64 (k : Nat) ∧ H = h ∧ hasS xs v = hasS (xs.drop k) v) xs.length ⟨0, by simp, rfl, rfl, rfl, rfl, rfl⟩ ?_
  rintro n F H ⟨k, hk, f0, f1, f5, rfl, hin⟩
  simp -implicitDefEqProofs only [awp_seq, awp_reg, awp_cond, seqQ_n, WW_one, WW_nil, none_md, none_fz, frz_nil, ownOp, wc_app, wcont_s, upd_app, ev_tmp, x_move, x_bin, x_len, holdsO_ofO, bin_lss, ↓reduceIte, Nat.reduceEqDiff, Option.getD_some, Bool.not_false, enP, ln179, f0, f1, f5, List.length_map]
  refine cond_of (fun hc => ?_) (fun hc => ?_)
  · have hc' : k < xs.length := by simpa using hc
    have hs : hasS (xs.drop k) v = ((v.toList == xs[k].toList) || hasS (xs.drop (k+1)) v) := any_step _ xs k hc'
    simp -implicitDefEqProofs only [awp_seq, awp_block, awp_reg, awp_skip, awp_cond, seqQ_n, WW_one, WW_nil, none_md, none_fz, frz_nil, ownOp, wc_app, wcont_s, upd_app, ev_tmp, x_move, x_load, x_bin, x_indexAddr, holdsO_ofO, bin_seql, ↓reduceIte, Nat.reduceEqDiff, Option.getD_some, Bool.not_false, enP, ix179, f0, f1, f5, ix_map hc', load_map ag9 hc', encStr0]
    refine cond_of (fun hb => ?_) (fun hb => ?_)
    · simp -implicitDefEqProofs only [awp_seq, awp_reg, awp_ret, seqQ_n, seqQ_r, blk_r, rnd_r, end_r, WW_one, WW_nil, none_md, none_fz, frz_nil, ownOp, wc_app, wcont_s, upd_app, ev_const, av_bool, x_assign, ↓reduceIte, Option.getD_some, Bool.not_false]
      refine ⟨?_, trivial⟩
      rw [hin, hs, show (v.toList == xs[k].toList) = true by rw [BEq.comm]; exact hb]; rfl
    · simp -implicitDefEqProofs only [awp_reg, awp_skip, seqQ_n, blk_n, rnd_n, WW_one, WW_nil, none_md, none_fz, frz_nil, ownOp, wc_app, wcont_s, upd_app, ev_tmp, ev_const, av_int, x_move, x_assign, x_bin, holdsO_ofO, bin_add, ↓reduceIte, Nat.reduceEqDiff, Option.getD_some, Bool.not_false, enP, f5, wrap_succ (show k < 9223372036854775807 by omega)]
      refine ⟨n - 1, by omega, k + 1, by omega, f0, f1, rfl, trivial, ?_⟩
      rw [hin, hs, show (v.toList == xs[k].toList) = false by rw [BEq.comm]; exact hb]; rfl
  · have hc' : ¬ k < xs.length := by simpa using hc
    simp -implicitDefEqProofs only [awp_seq, awp_reg, awp_ret, awp_exit, seqQ_n, seqQ_e, blk_e, rnd_e, end_r, WW_one, WW_nil, none_md, none_fz, frz_nil, ownOp, wc_app, wcont_s, upd_app, ev_const, av_bool, x_assign, ↓reduceIte, Option.getD_some, Bool.not_false]
    exact ⟨by rw [hin, List.drop_eq_nil_of_le (by omega)]; rfl, trivial⟩

theorem index_prog (G : Nat → AV) (xs : List ByteArray) (m : SM) (v : ByteArray) (h : Hp) (hl : xs.length ≤ 1099511627776) :
    ∃ i : Int, (decide (i ≥ 0) = hasS xs v) ∧ PCall (En G) 257 [.sl m 1 (xs.map encStr), .str v] h (.int .i64 i) := by
  refine ⟨(match xs.findIdx? (fun u => v.toList == u.toList) with | some i => (i : Int) | none => -1), ?_, ?_⟩
  · cases hx : xs.findIdx? (fun u => v.toList == u.toList) with
    | some i =>
      obtain ⟨h1, h2, _⟩ := List.findIdx?_eq_some_iff_getElem.1 hx
      have : hasS xs v = true := List.any_eq_true.2 ⟨xs[i], by simp, h2⟩
      simp [this]
    | none =>
      have : hasS xs v = false := by
        rw [List.findIdx?_eq_none_iff] at hx
        unfold hasS
        rw [List.any_eq_false]; intro x hx2; simp only [hx x hx2]; simp
      simp [this]
  refine acalls_of (H := Hint.none) (enM G) Tryz.func257 rfl (by kernel_rfl) (by kernel_rfl) (Nat.le_of_ble_eq_true (by kernel_rfl)) ?_
  show awp _ _ _ _ _ (endQ _ [.tmp 4] _)
  simp -implicitDefEqProofs only [awp_seq, awp_block, awp_reg, seqQ_n, WW_one, WW_nil, none_md, none_fz, frz_nil, ownOp, wc_app, wcont_s, upd_app, ev_tmp, ev_const, av_int, x_move, x_assign, x_len, holdsO_ofO, frameOf_zero, ↓reduceIte, Nat.reduceEqDiff, Option.getD_some, Bool.not_false, enP, ln179, List.length_map]
  refine awp_loop (fun n F H => ∃ k, n + k = xs.length ∧ F 0 = .sl m 1 (xs.map encStr) ∧ F 1 = .str v ∧ F 7 = .int .i64 xs.length ∧ F 8 = .int .i64 (k : Nat) ∧ H = h ∧ (xs.take k).all (fun u => !(v.toList == u.toList)) = true) xs.length ⟨0, by simp, rfl, rfl, rfl, rfl, rfl, rfl⟩ ?_
  rintro n F H ⟨k, hk, f0, f1, f7, f8, rfl, hin⟩
  simp -implicitDefEqProofs only [awp_seq, awp_reg, awp_cond, seqQ_n, WW_one, WW_nil, none_md, none_fz, frz_nil, ownOp, wc_app, wcont_s, upd_app, ev_tmp, x_bin, holdsO_ofO, bin_lss, ↓reduceIte, Option.getD_some, Bool.not_false, enP, f0, f1, f7, f8, List.length_map]
  refine cond_of (fun hc => ?_) (fun hc => ?_)
  · have hc' : k < xs.length := by simpa using hc
    simp -implicitDefEqProofs only [awp_seq, awp_block, awp_reg, awp_skip, awp_cond, seqQ_n, WW_one, WW_nil, none_md, none_fz, frz_nil, ownOp, wc_app, wcont_s, upd_app, ev_tmp, x_move, x_assign, x_load, x_bin, x_indexAddr, holdsO_ofO, bin_seql, ↓reduceIte, Nat.reduceEqDiff, Option.getD_some, Bool.not_false, enP, ix179, f0, f1, f7, f8, ix_map hc', load_map ag9 hc', encStr0]
    refine cond_of (fun hb => ?_) (fun hb => ?_)
    · simp -implicitDefEqProofs only [awp_seq, awp_reg, awp_ret, seqQ_n, seqQ_r, blk_r, rnd_r, end_r, WW_one, WW_nil, none_md, none_fz, frz_nil, ownOp, wc_app, wcont_s, upd_app, ev_tmp, x_move, x_assign, ↓reduceIte, Nat.reduceEqDiff, Option.getD_some, Bool.not_false]
      refine ⟨?_, trivial⟩
      rw [List.findIdx?_eq_some_iff_getElem.2 ⟨hc', hb, fun j hj => by
        rw [List.all_eq_true] at hin
        have := hin xs[j] (by rw [List.mem_take_iff_getElem]; exact ⟨j, by omega, rfl⟩)
        simpa using this⟩]
    · simp -implicitDefEqProofs only [awp_reg, awp_skip, seqQ_n, blk_n, rnd_n, WW_one, WW_nil, none_md, none_fz, frz_nil, ownOp, wc_app, wcont_s, upd_app, ev_tmp, ev_const, av_int, x_move, x_bin, holdsO_ofO, bin_add, ↓reduceIte, Nat.reduceEqDiff, Option.getD_some, Bool.not_false, enP, f8, wrap_succ (show k < 9223372036854775807 by omega)]
      refine ⟨n - 1, by omega, k + 1, by omega, f0, f1, f7, rfl, trivial, ?_⟩
      rw [List.take_succ_eq_append_getElem hc', List.all_append, hin]
      simp only [List.all_cons, List.all_nil, hb]; rfl
  · have hc' : ¬ k < xs.length := by simpa using hc
    simp -implicitDefEqProofs only [awp_seq, awp_reg, awp_ret, awp_exit, seqQ_n, seqQ_e, blk_e, rnd_e, end_r, WW_one, WW_nil, none_md, none_fz, frz_nil, ownOp, wc_app, wcont_s, upd_app, ev_const, av_int, x_assign, ↓reduceIte, Option.getD_some, Bool.not_false]
    refine ⟨?_, trivial⟩
    rw [List.take_of_length_le (by omega)] at hin
    rw [List.findIdx?_eq_none_iff.2 (by
      intro x hx
      rw [List.all_eq_true] at hin
      simpa using hin x hx)]
theorem contains_prog (G : Nat → AV) (xs : List ByteArray) (m : SM) (v : ByteArray) (h : Hp) (hl : xs.length ≤ 1099511627776) :
    PCall (En G) 229 [.sl m 1 (xs.map encStr), .str v] h (.bool (hasS xs v)) := by
  obtain ⟨i, hi, hp⟩ := index_prog G xs m v h hl
  refine acalls_of (H := Hint.none) (enM G) Tryz.func229 rfl (by kernel_rfl) (by kernel_rfl) (Nat.le_of_ble_eq_true (by kernel_rfl)) ?_
  show awp _ _ _ _ _ (endQ _ [.tmp 4] _)
  simp -implicitDefEqProofs only [awp_seq, awp_reg, seqQ_n, WW_one, WW_nil, none_md, none_fz, frz_nil, ownOp, wc_app, wcont_s, upd_app, ev_tmp, ev_const, ev_func, av_bool, x_move, x_assign, X1_call, callA_fn, frameOf_zero, frameOf_succ, List.map_cons, List.map_nil, List.append_nil, ↓reduceIte, Nat.reduceEqDiff, Option.getD_some, Bool.not_false, enP]
  refine hp.use ?_
  simp -implicitDefEqProofs only [awp_ret, seqQ_n, end_r, WW_one, WW_nil, none_md, none_fz, frz_nil, ownOp, wc_app, wcont_s, upd_app, ev_tmp, ev_const, av_int, x_assign, x_bin, holdsO_ofO, bin_geq, ↓reduceIte, Option.getD_some, Bool.not_false, enP]
  exact ⟨by rw [hi], trivial⟩

def kw : List ByteArray := [⟨#[99, 108, 97, 115, 115]⟩, ⟨#[101, 120, 116, 101, 110, 100, 115]⟩, ⟨#[114, 97, 110, 100]⟩, ⟨#[114, 97, 110, 100, 99]⟩, ⟨#[115, 116, 97, 116, 101]⟩, ⟨#[99, 111, 110, 115, 116, 114, 97, 105, 110, 116]⟩, ⟨#[115, 111, 102, 116]⟩, ⟨#[100, 105, 115, 116]⟩, ⟨#[105, 102]⟩, ⟨#[101, 108, 115, 101]⟩, ⟨#[101, 97, 99, 104]⟩, ⟨#[105, 110]⟩, ⟨#[115, 111, 108, 118, 101]⟩, ⟨#[98, 101, 102, 111, 114, 101]⟩, ⟨#[105, 110, 115, 105, 100, 101]⟩, ⟨#[112, 114, 111, 112, 101, 114, 116, 121]⟩, ⟨#[115, 101, 113]⟩, ⟨#[97, 110, 100]⟩, ⟨#[111, 114]⟩, ⟨#[110, 111, 116]⟩, ⟨#[115, 101, 116]⟩, ⟨#[104, 111, 108, 100]⟩, ⟨#[112, 108, 97, 105, 110]⟩, ⟨#[114, 101, 112, 101, 97, 116]⟩]
theorem kw_len : kw.length = 24 := rfl
theorem keywords_ref (G : Nat → AV) (h : Hp) : PCall (En G) 244 [] h (.sl .full 1 (kw.map encStr)) := by
  refine acalls_of (H := Hint.none) (enM G) Tryz.func244 rfl (by kernel_rfl) (by kernel_rfl) (Nat.le_of_ble_eq_true (by kernel_rfl)) ?_
  show awp _ _ _ _ _ (endQ _ [.tmp 0] _)
  simp -implicitDefEqProofs only [evp_nil, evp_cons, awp_seq, awp_reg, seqQ_n, WW_one, WW_nil, none_md, none_fz, frz_nil, ownOp, wc_app, wcont_s, ev_const, av_str, av_nil, x_assign, x_buildSlice, Option.getD_some, Bool.not_false, enP]
  refine holdsO_of (v := .sl .full 1 (kw.map encStr)) (h := h) (by kernel_rfl) ?_
  simp -implicitDefEqProofs only [awp_ret, seqQ_n, end_r, WW_one, WW_nil, none_md, none_fz, frz_nil, ownOp, wc_app, wcont_s, upd_app, ev_tmp, x_assign, ↓reduceIte, Option.getD_some, Bool.not_false]
  exact ⟨trivial, trivial⟩
theorem isKeyword_ref (G : Nat → AV) (v : ByteArray) (h : Hp) : PCall (En G) 214 [.str v] h (.bool (hasS kw v)) := by
  refine acalls_of (H := Hint.none) (enM G) Tryz.func214 rfl (by kernel_rfl) (by kernel_rfl) (Nat.le_of_ble_eq_true (by kernel_rfl)) ?_
  show awp _ _ _ _ _ (endQ _ [.tmp 2] _)
  simp -implicitDefEqProofs only [awp_seq, awp_reg, seqQ_n, WW_one, WW_nil, none_md, none_fz, frz_nil, ownOp, wc_app, wcont_s, ev_const, ev_func, av_bool, x_assign, X1_call, callA_fn, List.map_nil, List.append_nil, Option.getD_some, Bool.not_false, enP]
  refine (keywords_ref G h).use ?_
  simp -implicitDefEqProofs only [WW_one, none_md, none_fz, frz_nil, ownOp, wc_app, wcont_s, upd_app, ev_tmp, ev_func, x_move, X1_call, callA_fn, frameOf_zero, List.map_cons, List.map_nil, List.append_nil, ↓reduceIte, Nat.reduceEqDiff, Option.getD_some, Bool.not_false]
  refine (has_ref G kw .full v h (by rw [kw_len]; omega)).use ?_
  simp -implicitDefEqProofs only [awp_ret, seqQ_n, end_r, WW_one, WW_nil, none_md, none_fz, frz_nil, ownOp, wc_app, wcont_s, upd_app, ev_tmp, x_assign, ↓reduceIte, Option.getD_some, Bool.not_false]
  exact ⟨trivial, trivial⟩
/-- the global variable of the keywords -/
def KwG (G : Nat → AV) : Prop := ∃ m, G 0 = .fptr 1 [[.sl m 1 (kw.map encStr)]] 0 0
theorem isKeyword_prog (G : Nat → AV) (hG : KwG G) (v : ByteArray) (h : Hp) : PCall (En G) 195 [.str v] h (.bool (hasS kw v)) := by
  obtain ⟨m, hg⟩ := hG
  refine acalls_of (H := Hint.none) (enM G) Tryz.func195 rfl (by kernel_rfl) (by kernel_rfl) (Nat.le_of_ble_eq_true (by kernel_rfl)) ?_
  show awp _ _ _ _ _ (endQ _ [.tmp 2] _)
  have e : aLoad Tryz.prog h 179 (G 0) = some (.sl m 1 (kw.map encStr)) := by rw [hg]; exact load_fix ag179 rfl rfl
  have hl : kw.length ≤ 1099511627776 := by rw [kw_len]; omega
  simp -implicitDefEqProofs only [awp_seq, awp_reg, seqQ_n, WW_one, WW_nil, none_md, none_fz, frz_nil, ownOp, wc_app, wcont_s, upd_app, ev_tmp, ev_const, ev_func, ev_glob, av_bool, x_move, x_assign, x_load, X1_call, callA_fn, holdsO_ofO, frameOf_zero, List.map_cons, List.map_nil, List.append_nil, ↓reduceIte, Nat.reduceEqDiff, Option.getD_some, Bool.not_false, enP, enG, e]
  refine (contains_prog G kw m v h hl).use ?_
  simp -implicitDefEqProofs only [awp_ret, seqQ_n, end_r, WW_one, WW_nil, none_md, none_fz, frz_nil, ownOp, wc_app, wcont_s, upd_app, ev_tmp, x_assign, ↓reduceIte, Option.getD_some, Bool.not_false]
  exact ⟨trivial, trivial⟩

/-- a word: not empty, begins small, goes on as names do -/
def wordB (s : ByteArray) : Bool := (match s.data.toList with | [] => false | b :: _ => lowB b.toNat) && s.data.toList.all fun b => folB b.toNat
def isName (s : ByteArray) : Bool := wordB s && decide (s.size ≤ 16) && !hasS kw s

theorem fol_small {n : Int} (h : folB n = true) : n < 128 := by
  simp only [folB, lowB, digB, Bool.or_eq_true, Bool.and_eq_true, decide_eq_true_eq, beq_iff_eq] at h
  omega
theorem rng_str (h : Hp) (s : ByteArray) : aRange Tryz.prog h 9 (.str s) = some (.ptr h.length 0 0, h ++ [.iter s 0]) := by
  have : Tryz.prog.underlying 9 = some .string := by kernel_rfl
  simp [aRange, this]
theorem next_go {h : Hp} {s : ByteArray} {pos : Nat} (hp : pos < s.size) : aNext (h ++ [.iter s pos]) (.ptr h.length 0 0) true = some (.tup [.bool true, .int .i64 pos, .int .i32 (Utf8.decode s pos).1], h ++ [.iter s (pos + (Utf8.decode s pos).2)]) := by
  simp [aNext, hp]
theorem next_end {h : Hp} {s : ByteArray} {pos : Nat} (hp : ¬ pos < s.size) : aNext (h ++ [.iter s pos]) (.ptr h.length 0 0) true = some (.tup [.bool false], h ++ [.iter s pos]) := by
  simp [aNext, hp]

theorem wordB_fail {s : ByteArray} {k : Nat} (hk : k < s.size) (hb : folB (s[k]'hk).toNat = false) : wordB s = false := by
  unfold wordB
  have : (s.data.toList.all fun b => folB b.toNat) = false := by
    rw [List.all_eq_false]
    exact ⟨s[k], Array.getElem_mem_toList (xs := s.data) hk, by simp [hb]⟩
  rw [this]; simp
theorem wordB_fail0 {s : ByteArray} (hk : 0 < s.size) (hb : lowB (s[0]'hk).toNat = false) : wordB s = false := by
  unfold wordB
  have : (match s.data.toList with | [] => false | b :: _ => lowB b.toNat) = false := by
    cases hl : s.data.toList with
    | nil => rfl
    | cons b l =>
      have h0 : s[0]'hk = b := by
        have : s.data.toList[0]? = some b := by rw [hl]; rfl
        have h2 : s.data[0]? = some b := by rw [← Array.getElem?_toList]; exact this
        have hk' : 0 < s.data.size := hk
        rw [Array.getElem?_eq_getElem hk'] at h2
        exact Option.some.inj h2
      simp only
      rw [← h0]; exact hb
  rw [this]; simp
theorem wordB_ok {s : ByteArray} (hk : 0 < s.size) (hb : lowB (s[0]'hk).toNat = true) (ha : ∀ i (hi : i < s.size), folB (s[i]'hi).toNat = true) : wordB s = true := by
  unfold wordB
  have h1 : (match s.data.toList with | [] => false | b :: _ => lowB b.toNat) = true := by
    cases hl : s.data.toList with
    | nil =>
      have : s.data.toList.length = 0 := by rw [hl]; rfl
      have h2 : s.data.size = 0 := by simpa using this
      have h3 : s.size = s.data.size := rfl
      omega
    | cons b l =>
      have h0 : s[0]'hk = b := by
        have : s.data.toList[0]? = some b := by rw [hl]; rfl
        have h2 : s.data[0]? = some b := by rw [← Array.getElem?_toList]; exact this
        have hk' : 0 < s.data.size := hk
        rw [Array.getElem?_eq_getElem hk'] at h2
        exact Option.some.inj h2
      simp only
      rw [← h0]; exact hb
  rw [h1, Bool.true_and, List.all_eq_true]
  intro b hbm
  obtain ⟨i, hi, rfl⟩ := List.getElem_of_mem hbm
  have hi' : i < s.size := by simpa using hi
  exact ha i hi'

theorem word_prog (G : Nat → AV) (s : ByteArray) (h : Hp) (hl : s.size ≤ 1099511627776) : PCall (En G) 194 [.str s] h (.bool (wordB s)) := by
  refine ACalls.pure0 rfl ?_
  refine acalls_of (H := Hint.none) (enM G) Tryz.func194 rfl (by kernel_rfl) (by kernel_rfl) (Nat.le_of_ble_eq_true (by kernel_rfl)) ?_
  show awp _ _ _ _ _ (endQ _ [.tmp 2] _)
  simp -implicitDefEqProofs only [awp_seq, awp_block, awp_reg, seqQ_n, WW_one, WW_nil, none_md, none_fz, frz_nil, ownOp, wc_app, wcont_s, upd_app, ev_tmp, ev_const, av_bool, x_move, x_assign, x_range, holdsO_some, frameOf_zero, ↓reduceIte, Nat.reduceEqDiff, Option.getD_some, Bool.not_false, enP, rng_str]
  refine awp_loop (fun n F H => ∃ k, n + k = s.size ∧ F 0 = .str s ∧ F 6 = .ptr h.length 0 0 ∧ H = h ++ [.iter s k] ∧ (∀ i (hi : i < s.size), i < k → folB (s[i]'hi).toNat = true) ∧ (∀ hp : 0 < s.size, 0 < k → lowB (s[0]'hp).toNat = true)) s.size ⟨0, by simp, rfl, by simp -implicitDefEqProofs only [upd_app, ↓reduceIte], rfl, fun _ _ h => absurd h (by omega), fun _ h => absurd h (by omega)⟩ ?_
  rintro n F H ⟨k, hk, f0, f6, rfl, hall, h0⟩
  rcases Classical.em (k < s.size) with hp | hp
  · have go : ∀ (r : Nat × Nat), Utf8.decode s k = r → (folB r.1 = true → r = ((s[k]'hp).toNat, 1) ∧ folB (s[k]'hp).toNat = true) ∧ (folB r.1 = false → wordB s = false) ∧ (lowB r.1 = false → k = 0 → wordB s = false) ∧ (lowB r.1 = true → folB r.1 = true) := by
      rintro r rfl
      have lf : ∀ n, lowB n = true → folB n = true := fun n hn => by unfold folB; rw [hn]; rfl
      rcases Nat.lt_or_ge (s[k]'hp).toNat 128 with ha | ha
      · have hd := decode_ascii s k hp ha
        rw [hd]
        exact ⟨fun hf => ⟨rfl, hf⟩, fun hf => wordB_fail hp hf, fun hf h0 => by subst h0; exact wordB_fail0 hp hf, lf _⟩
      · have hd := (decode_high s k hp ha).1
        refine ⟨fun hf => ?_, fun _ => ?_, fun _ h0 => ?_, lf _⟩
        · have := fol_small hf; omega
        · refine wordB_fail hp ?_
          cases hf : folB (s[k]'hp).toNat with
          | false => rfl
          | true => have := fol_small hf; omega
        · refine wordB_fail hp ?_
          cases hf : folB (s[k]'hp).toNat with
          | false => rfl
          | true => have := fol_small hf; omega
    simp -implicitDefEqProofs only [List.getElem?_cons_zero, List.getElem?_cons_succ, awp_seq, awp_block, awp_reg, awp_skip, awp_cond, seqQ_n, cond_t, WW_one, WW_nil, WW_guardE, GX_some, gdstO, none_md, none_fz, frz_nil, ownOp, wc_app, wcont_s, upd_app, ev_tmp, ev_const, av_int, x_move, x_assign, x_bin, x_next, x_extract, ext_tup, holdsO_some, holdsO_ofO, bin_eql, ↓reduceIte, Nat.reduceEqDiff, Option.getD_some, Bool.not_false, enP, f0, f6, next_go hp]
    generalize hr : Utf8.decode s k = r at go
    obtain ⟨g1, g2, g3, g4⟩ := go r rfl
    have done : ∀ H', folB r.1 = true → (k = 0 → lowB r.1 = true) → H' = h ++ [ABlk.iter s (k + r.2)] → ∃ m, m < n ∧ ∃ k', m + k' = s.size ∧ H' = h ++ [.iter s k'] ∧ (∀ i (hi : i < s.size), i < k' → folB (s[i]'hi).toNat = true) ∧ (∀ hp : 0 < s.size, 0 < k' → lowB (s[0]'hp).toNat = true) := by
      intro H' hf hlw hH
      obtain ⟨e1, e2⟩ := g1 hf
      refine ⟨n - 1, by omega, k + 1, by omega, by rw [hH, e1], fun i hi hik => ?_, fun hp0 _ => ?_⟩
      · rcases Nat.lt_or_ge i k with h' | h'
        · exact hall i hi h'
        · have : i = k := by omega
          subst this; exact e2
      · rcases Nat.eq_zero_or_pos k with h' | h'
        · subst h'; have := hlw rfl; rw [e1] at this; exact this
        · exact h0 hp0 h'
    refine G1_of (fun ha => ?_) (fun ha => ?_)
    · have hk0 : k = 0 := by simp at ha; omega
      simp -implicitDefEqProofs only [WW_guardE, GX_some, gdstO, G1_tt, none_md, none_fz, frz_nil, ownOp, wc_app, wcont_s, upd_app, ev_tmp, ev_func, x_move, X1_call, callA_fn, List.map_cons, List.map_nil, List.append_nil, ↓reduceIte, Nat.reduceEqDiff, Option.getD_some, Bool.not_false, ha]
      refine (lower_prog G _ _).use ?_
      simp -implicitDefEqProofs only [WW_one, WW_guardE, GX_some, gdstO, G1_tt, none_md, none_fz, frz_nil, ownOp, wc_app, wcont_s, upd_app, ev_tmp, ev_const, av_bool, x_move, x_pick, pick_t, x_un, holdsO_ofO, un_not, ↓reduceIte, Nat.reduceEqDiff, Option.getD_some, Bool.not_false]
      refine G1_of (fun hb => ?_) (fun hb => ?_)
      · simp -implicitDefEqProofs only [awp_seq, awp_reg, awp_ret, awp_cond, seqQ_n, seqQ_r, blk_r, rnd_r, end_r, cond_t, WW_one, WW_nil, WW_guardE, GX_some, gdstO, G1_ft, none_md, none_fz, frz_nil, ownOp, wc_app, wcont_s, upd_app, aput, ev_tmp, ev_const, av_bool, x_assign, x_pick, pick_t, ↓reduceIte, Nat.reduceEqDiff, Option.getD_some, Bool.not_false, hb]
        have hlw : lowB r.1 = false := by simpa using hb
        exact ⟨by rw [g3 hlw hk0], _, rfl⟩
      have hlw : lowB r.1 = true := by simpa using hb
      simp -implicitDefEqProofs only [WW_guardE, GX_some, gdstO, G1_ff, none_md, none_fz, frz_nil, ownOp, wc_app, wcont_s, upd_app, ev_tmp, ev_func, x_move, X1_call, callA_fn, List.map_cons, List.map_nil, List.append_nil, ↓reduceIte, Nat.reduceEqDiff, Option.getD_some, Bool.not_false, hb]
      refine (follows_prog G _ _).use ?_
      simp -implicitDefEqProofs only [awp_cond, seqQ_n, WW_one, WW_nil, WW_guardE, GX_some, gdstO, G1_ff, none_md, none_fz, frz_nil, ownOp, wc_app, wcont_s, upd_app, ev_tmp, ev_const, av_bool, x_pick, pick_f, x_un, holdsO_ofO, un_not, ↓reduceIte, Nat.reduceEqDiff, Option.getD_some, Bool.not_false]
      have hf := g4 hlw
      simp -implicitDefEqProofs only [awp_skip, blk_n, rnd_n, cond_f, upd_app, ↓reduceIte, Nat.reduceEqDiff, Bool.not_true, hf]
      obtain ⟨m, h1, k', h2, h3, h4, h5⟩ := done _ hf (fun _ => hlw) rfl
      exact ⟨m, h1, k', h2, f0, f6, h3, h4, h5⟩
    · have hk0 : k ≠ 0 := by intro e; subst e; simp at ha
      simp -implicitDefEqProofs only [WW_one, WW_guardE, GX_some, gdstO, G1_ff, G1_tf, none_md, none_fz, frz_nil, ownOp, wc_app, wcont_s, upd_app, aput, ev_tmp, ev_const, ev_func, av_bool, x_move, x_pick, pick_f, X1_call, callA_fn, List.map_cons, List.map_nil, List.append_nil, ↓reduceIte, Nat.reduceEqDiff, Option.getD_some, Bool.not_false, ha]
      refine (follows_prog G _ _).use ?_
      simp -implicitDefEqProofs only [awp_cond, seqQ_n, WW_one, WW_nil, WW_guardE, GX_some, gdstO, G1_ff, none_md, none_fz, frz_nil, ownOp, wc_app, wcont_s, upd_app, ev_tmp, ev_const, av_bool, x_pick, pick_f, x_un, holdsO_ofO, un_not, ↓reduceIte, Nat.reduceEqDiff, Option.getD_some, Bool.not_false]
      refine cond_of (fun hb => ?_) (fun hb => ?_)
      · have hf : folB r.1 = false := by simpa using hb
        simp -implicitDefEqProofs only [awp_seq, awp_reg, awp_ret, seqQ_n, seqQ_r, blk_r, rnd_r, end_r, WW_one, WW_nil, none_md, none_fz, frz_nil, ownOp, wc_app, wcont_s, upd_app, ev_const, av_bool, x_assign, ↓reduceIte, Option.getD_some, Bool.not_false]
        exact ⟨by rw [g2 hf], _, rfl⟩
      · have hf : folB r.1 = true := by simpa using hb
        simp -implicitDefEqProofs only [awp_skip, blk_n, rnd_n, upd_app, ↓reduceIte, Nat.reduceEqDiff]
        obtain ⟨m, h1, k', h2, h3, h4, h5⟩ := done _ hf (fun e => absurd e hk0) rfl
        exact ⟨m, h1, k', h2, f0, f6, h3, h4, h5⟩
  · simp -implicitDefEqProofs only [List.getElem?_cons_zero, awp_seq, awp_reg, awp_ret, awp_exit, awp_cond, seqQ_n, seqQ_e, blk_e, rnd_e, end_r, cond_f, WW_one, WW_nil, none_md, none_fz, frz_nil, ownOp, wc_app, wcont_s, upd_app, ev_tmp, ev_const, av_str, x_move, x_assign, x_bin, x_next, x_extract, ext_tup, holdsO_some, holdsO_ofO, bin_sneq, ↓reduceIte, Nat.reduceEqDiff, Option.getD_some, Bool.not_false, enP, f0, f6, next_end hp]
    have hks : k = s.size := by omega
    refine ⟨?_, _, rfl⟩
    congr 1
    rcases Nat.eq_zero_or_pos s.size with hz | hz
    · have : s = ⟨#[]⟩ := by
        obtain ⟨d⟩ := s
        have : d.size = 0 := hz
        rw [Array.eq_empty_of_size_eq_zero this]
      subst this
      rw [ByteArray.toList_eq]
      rfl
    · rw [wordB_ok hz (h0 hz (by omega)) (fun i hi => hall i hi (by omega))]
      have hne : s.toList ≠ [] := by
        rw [ByteArray.toList_eq]
        intro e
        have : s.data.toList.length = 0 := by rw [e]; rfl
        have h2 : s.data.size = 0 := by simpa using this
        have h3 : s.size = s.data.size := rfl
        omega
      cases hl2 : s.toList with
      | nil => exact absurd hl2 hne
      | cons => rw [ByteArray.toList_eq]; rfl
end Go.Proofs.YtocilianjfhifaaGreatDoor.Bins
/- Contracts of the name tests and of Valid, of the program and of the reference; no condition. -/
set_option linter.unusedSimpArgs false
set_option maxRecDepth 8000
namespace Go.Proofs.YtocilianjfhifaaGreatDoor.Bins
open Go Go.Proofs.YtocilianjfhifaaGreatDoor.Sm

theorem isName_prog (G : Nat → AV) (hG : KwG G) (s : ByteArray) (h : Hp) (hl : s.size ≤ 1099511627776) : PCall (En G) 150 [.str s] h (.bool (isName s)) := by
  refine acalls_of (H := Hint.none) (enM G) Tryz.func150 rfl (by kernel_rfl) (by kernel_rfl) (Nat.le_of_ble_eq_true (by kernel_rfl)) ?_
  show awp _ _ _ _ _ (endQ _ [.tmp 2] _)
  simp -implicitDefEqProofs only [awp_seq, awp_reg, seqQ_n, WW_one, WW_nil, none_md, none_fz, frz_nil, ownOp, wc_app, wcont_s, upd_app, ev_tmp, ev_const, ev_func, av_bool, x_move, x_assign, X1_call, callA_fn, frameOf_zero, List.map_cons, List.map_nil, List.append_nil, ↓reduceIte, Nat.reduceEqDiff, Option.getD_some, Bool.not_false, enP]
  refine (word_prog G s h hl).use ?_
  simp -implicitDefEqProofs only [WW_one, WW_guardE, GX_some, gdstO, none_md, none_fz, frz_nil, ownOp, wc_app, wcont_s, upd_app, ev_tmp, x_move, ↓reduceIte, Option.getD_some, Bool.not_false]
  refine G1_of (fun ha => ?_) (fun ha => ?_)
  · simp -implicitDefEqProofs only [WW_one, WW_guardE, GX_some, gdstO, G1_tt, none_md, none_fz, frz_nil, ownOp, wc_app, wcont_s, upd_app, ev_tmp, ev_const, av_int, av_bool, x_move, x_pick, pick_t, x_bin, x_len, holdsO_ofO, bin_leq, frameOf_zero, ↓reduceIte, Nat.reduceEqDiff, Option.getD_some, Bool.not_false, enP, ln9, ha]
    refine G1_of (fun hb => ?_) (fun hb => ?_)
    · simp -implicitDefEqProofs only [WW_guardE, GX_some, gdstO, G1_tt, none_md, none_fz, frz_nil, ownOp, wc_app, wcont_s, upd_app, ev_tmp, ev_func, x_move, X1_call, callA_fn, frameOf_zero, List.map_cons, List.map_nil, List.append_nil, ↓reduceIte, Nat.reduceEqDiff, Option.getD_some, Bool.not_false, hb]
      refine (isKeyword_prog G hG s h).use ?_
      simp -implicitDefEqProofs only [awp_ret, seqQ_n, end_r, WW_one, WW_nil, WW_guardE, GX_some, gdstO, G1_tt, none_md, none_fz, frz_nil, ownOp, wc_app, wcont_s, upd_app, ev_tmp, ev_const, av_bool, x_assign, x_pick, pick_t, x_un, holdsO_ofO, un_not, ↓reduceIte, Nat.reduceEqDiff, Option.getD_some, Bool.not_false]
      refine ⟨?_, trivial⟩
      have : decide (s.size ≤ 16) = true := by simp at hb ⊢; omega
      unfold isName; rw [ha, this]; rfl
    · simp -implicitDefEqProofs only [awp_ret, seqQ_n, end_r, WW_one, WW_nil, WW_guardE, GX_some, gdstO, G1_tf, none_md, none_fz, frz_nil, ownOp, wc_app, wcont_s, upd_app, aput, ev_tmp, ev_const, av_bool, x_assign, x_pick, pick_f, ↓reduceIte, Nat.reduceEqDiff, Option.getD_some, Bool.not_false, hb]
      refine ⟨?_, trivial⟩
      have : decide (s.size ≤ 16) = false := by simp at hb ⊢; omega
      unfold isName; rw [ha, this]; rfl
  · simp -implicitDefEqProofs only [awp_ret, seqQ_n, end_r, WW_one, WW_nil, WW_guardE, GX_some, gdstO, G1_tf, none_md, none_fz, frz_nil, ownOp, wc_app, wcont_s, upd_app, aput, ev_tmp, ev_const, av_bool, x_move, x_assign, x_pick, pick_f, ↓reduceIte, Nat.reduceEqDiff, Option.getD_some, Bool.not_false, ha]
    exact ⟨by unfold isName; rw [ha]; rfl, trivial⟩

theorem ix9 (s : ByteArray) (k : Nat) (kk : IntKind) (hk : k < s.size) : aIndex Tryz.prog 9 (.str s) (.int kk (k : Int)) = some (.int .u8 (s[k]'hk).toNat) := by
  have hu : Tryz.prog.underlying 9 = some .string := by kernel_rfl
  have h0 : (0 : Int) ≤ (k : Int) := by omega
  have : s[k]? = some (s[k]'hk) := by simp [hk]
  simp [aIndex, hu, h0, this]

theorem isName_ref (G : Nat → AV) (s : ByteArray) (h : Hp) : PCall (En G) 160 [.str s] h (.bool (isName s)) := by
  refine acalls_of (H := Hint.none) (enM G) Tryz.func160 rfl (by kernel_rfl) (by kernel_rfl) (Nat.le_of_ble_eq_true (by kernel_rfl)) ?_
  show awp _ _ _ _ _ (endQ _ [.tmp 2] _)
  simp -implicitDefEqProofs only [awp_seq, awp_reg, seqQ_n, WW_one, WW_nil, WW_guardE, GX_some, gdstO, none_md, none_fz, frz_nil, ownOp, wc_app, wcont_s, upd_app, ev_tmp, ev_const, av_bool, av_str, x_move, x_assign, x_bin, holdsO_ofO, bin_seql, frameOf_zero, ↓reduceIte, Nat.reduceEqDiff, Option.getD_some, Bool.not_false, enP]
  refine G1_of (fun ha => ?_) (fun ha => ?_)
  · simp -implicitDefEqProofs only [awp_seq, awp_reg, awp_ret, awp_cond, seqQ_n, seqQ_r, end_r, cond_t, WW_one, WW_nil, WW_guardE, GX_some, gdstO, G1_ft, none_md, none_fz, frz_nil, ownOp, wc_app, wcont_s, upd_app, aput, ev_tmp, ev_const, av_bool, x_move, x_assign, x_pick, pick_t, ↓reduceIte, Nat.reduceEqDiff, Option.getD_some, Bool.not_false, ha]
    refine ⟨?_, trivial⟩
    have : s.data.toList = [] := by
      rw [ByteArray.toList_eq, ByteArray.toList_eq] at ha
      have := beq_iff_eq.1 ha
      exact this
    unfold isName wordB; rw [this]; rfl
  have hz : 0 < s.size := by
    rcases Nat.eq_zero_or_pos s.size with hz | hz
    · have : s = ⟨#[]⟩ := by
        obtain ⟨d⟩ := s
        have : d.size = 0 := hz
        rw [Array.eq_empty_of_size_eq_zero this]
      rw [this] at ha
      simp at ha
    · exact hz
  simp -implicitDefEqProofs only [WW_one, WW_guardE, GX_some, gdstO, G1_ff, none_md, none_fz, frz_nil, ownOp, wc_app, wcont_s, upd_app, ev_tmp, ev_const, av_int, av_bool, x_move, x_pick, pick_f, x_bin, x_len, holdsO_ofO, bin_gtr, frameOf_zero, ↓reduceIte, Nat.reduceEqDiff, Option.getD_some, Bool.not_false, enP, ln9, ha]
  refine G1_of (fun hb => ?_) (fun hb => ?_)
  · simp -implicitDefEqProofs only [awp_seq, awp_reg, awp_ret, awp_cond, seqQ_n, seqQ_r, end_r, cond_t, WW_one, WW_nil, WW_guardE, GX_some, gdstO, G1_ft, none_md, none_fz, frz_nil, ownOp, wc_app, wcont_s, upd_app, aput, ev_tmp, ev_const, av_bool, x_move, x_assign, x_pick, pick_t, ↓reduceIte, Nat.reduceEqDiff, Option.getD_some, Bool.not_false, hb]
    refine ⟨?_, trivial⟩
    have : decide (s.size ≤ 16) = false := by simp at hb ⊢; omega
    unfold isName; rw [this]; simp
  have h16 : decide (s.size ≤ 16) = true := by simp at hb ⊢; omega
  simp -implicitDefEqProofs only [WW_guardE, GX_some, gdstO, G1_ff, none_md, none_fz, frz_nil, ownOp, wc_app, wcont_s, upd_app, ev_tmp, ev_const, av_int, x_move, x_index, frameOf_zero, ↓reduceIte, Nat.reduceEqDiff, Option.getD_some, Bool.not_false, enP, hb]
  refine holdsO_of (v := .int .u8 (s[0]'hz).toNat) (h := h) (by rw [show (0 : Int) = ((0 : Nat) : Int) from rfl, ix9 s 0 .i64 hz]; rfl) ?_
  simp -implicitDefEqProofs only [WW_guardE, GX_some, gdstO, G1_ff, none_md, none_fz, frz_nil, ownOp, wc_app, wcont_s, upd_app, ev_tmp, ev_func, X1_call, callA_fn, List.map_cons, List.map_nil, List.append_nil, ↓reduceIte, Nat.reduceEqDiff, Option.getD_some, Bool.not_false]
  refine (small_ref G _ h).use ?_
  simp -implicitDefEqProofs only [WW_one, WW_guardE, GX_some, gdstO, G1_ff, none_md, none_fz, frz_nil, ownOp, wc_app, wcont_s, upd_app, ev_tmp, ev_const, av_bool, x_move, x_pick, pick_f, x_un, holdsO_ofO, un_not, ↓reduceIte, Nat.reduceEqDiff, Option.getD_some, Bool.not_false]
  refine G1_of (fun hc => ?_) (fun hc => ?_)
  · simp -implicitDefEqProofs only [awp_seq, awp_reg, awp_ret, awp_cond, seqQ_n, seqQ_r, end_r, cond_t, WW_one, WW_nil, WW_guardE, GX_some, gdstO, G1_ft, none_md, none_fz, frz_nil, ownOp, wc_app, wcont_s, upd_app, aput, ev_tmp, ev_const, av_bool, x_assign, x_pick, pick_t, ↓reduceIte, Nat.reduceEqDiff, Option.getD_some, Bool.not_false, hc]
    refine ⟨?_, trivial⟩
    unfold isName; rw [wordB_fail0 hz (by simpa using hc)]; rfl
  simp -implicitDefEqProofs only [WW_guardE, GX_some, gdstO, G1_ff, none_md, none_fz, frz_nil, ownOp, wc_app, wcont_s, upd_app, ev_tmp, ev_func, x_move, X1_call, callA_fn, frameOf_zero, List.map_cons, List.map_nil, List.append_nil, ↓reduceIte, Nat.reduceEqDiff, Option.getD_some, Bool.not_false, hc]
  refine (isKeyword_ref G s h).use ?_
  simp -implicitDefEqProofs only [awp_cond, seqQ_n, WW_one, WW_nil, none_md, none_fz, frz_nil, ownOp, wc_app, wcont_s, upd_app, ev_tmp, ev_const, av_bool, x_pick, pick_f, ↓reduceIte, Nat.reduceEqDiff, Option.getD_some, Bool.not_false]
  refine cond_of (fun hd => ?_) (fun hd => ?_)
  · simp -implicitDefEqProofs only [awp_seq, awp_reg, awp_ret, seqQ_n, seqQ_r, end_r, WW_one, WW_nil, none_md, none_fz, frz_nil, ownOp, wc_app, wcont_s, upd_app, ev_const, av_bool, x_assign, ↓reduceIte, Option.getD_some, Bool.not_false]
    refine ⟨?_, trivial⟩
    unfold isName; rw [hd]; simp
  simp -implicitDefEqProofs only [awp_seq, awp_block, awp_reg, awp_skip, seqQ_n, WW_one, WW_nil, none_md, none_fz, frz_nil, ownOp, wc_app, wcont_s, ev_const, av_int, x_assign, Option.getD_some, Bool.not_false]
  have hlow : lowB (s[0]'hz).toNat = true := by simpa using hc
  refine awp_loop (fun n F H => ∃ k, n + k = s.size ∧ F 0 = .str s ∧ F 3 = .int .i64 (k : Nat) ∧ H = h ∧ (∀ i (hi : i < s.size), i < k → folB (s[i]'hi).toNat = true)) s.size ⟨0, by simp, by simp -implicitDefEqProofs only [upd_app, frameOf_zero, ↓reduceIte, Nat.reduceEqDiff], by simp -implicitDefEqProofs only [upd_app, ↓reduceIte]; rfl, rfl, fun _ _ h => absurd h (by omega)⟩ ?_
  rintro n F H ⟨k, hk, f0, f3, rfl, hall⟩
  simp -implicitDefEqProofs only [awp_seq, awp_reg, awp_cond, seqQ_n, WW_one, WW_nil, none_md, none_fz, frz_nil, ownOp, wc_app, wcont_s, upd_app, ev_tmp, x_move, x_bin, x_len, holdsO_ofO, bin_lss, ↓reduceIte, Nat.reduceEqDiff, Option.getD_some, Bool.not_false, enP, ln9, f0, f3]
  refine cond_of (fun he => ?_) (fun he => ?_)
  · have hk' : k < s.size := by simpa using he
    simp -implicitDefEqProofs only [awp_seq, awp_block, awp_reg, awp_skip, seqQ_n, WW_one, none_md, none_fz, frz_nil, ownOp, wc_app, wcont_s, upd_app, ev_tmp, ev_func, x_move, x_index, X1_call, callA_fn, holdsO_ofO, List.map_cons, List.map_nil, List.append_nil, ↓reduceIte, Nat.reduceEqDiff, Option.getD_some, Bool.not_false, enP, f0, f3, ix9 s k .i64 hk']
    refine (inner_ref G _ _).use ?_
    simp -implicitDefEqProofs only [awp_cond, seqQ_n, WW_one, WW_nil, none_md, none_fz, frz_nil, ownOp, wc_app, wcont_s, upd_app, ev_tmp, x_un, holdsO_ofO, un_not, ↓reduceIte, Option.getD_some, Bool.not_false]
    refine cond_of (fun hf => ?_) (fun hf => ?_)
    · simp -implicitDefEqProofs only [awp_seq, awp_reg, awp_ret, seqQ_n, seqQ_r, blk_r, rnd_r, end_r, WW_one, WW_nil, none_md, none_fz, frz_nil, ownOp, wc_app, wcont_s, upd_app, ev_const, av_bool, x_assign, ↓reduceIte, Option.getD_some, Bool.not_false]
      refine ⟨?_, trivial⟩
      unfold isName; rw [wordB_fail hk' (by simpa using hf)]; rfl
    · simp -implicitDefEqProofs only [awp_reg, awp_skip, seqQ_n, blk_n, rnd_n, WW_one, WW_nil, none_md, none_fz, frz_nil, ownOp, wc_app, wcont_s, upd_app, ev_tmp, ev_const, av_int, x_move, x_assign, x_bin, holdsO_ofO, bin_add, ↓reduceIte, Nat.reduceEqDiff, Option.getD_some, Bool.not_false, enP, f3, wrap_succ (show k < 9223372036854775807 by simp at h16; omega)]
      refine ⟨n - 1, by omega, k + 1, by omega, f0, rfl, trivial, fun i hi hik => ?_⟩
      rcases Nat.lt_or_ge i k with h' | h'
      · exact hall i hi h'
      · have : i = k := by omega
        subst this; simpa using hf
  · have hk' : ¬ k < s.size := by simpa using he
    simp -implicitDefEqProofs only [awp_seq, awp_reg, awp_ret, awp_exit, seqQ_n, seqQ_e, blk_e, rnd_e, end_r, WW_one, WW_nil, none_md, none_fz, frz_nil, ownOp, wc_app, wcont_s, upd_app, ev_const, av_bool, x_assign, ↓reduceIte, Option.getD_some, Bool.not_false]
    refine ⟨?_, trivial⟩
    unfold isName
    rw [wordB_ok hz hlow (fun i hi => hall i hi (by omega)), h16, hd]; rfl

/-- what the reference says of the shape -/
def refShape (b : Bin) : Bool :=
  decide (b.kind < 0) || decide (b.kind > 2) || (decide ((b.ranges.l.length : Int) > 0) == decide ((b.steps.length : Int) > 0)) || (b.kind != 0 && decide ((b.steps.length : Int) > 0)) || ((b.steps.length : Int) == 1) || decide ((b.steps.length : Int) > 8)
def validE (b : Bin) : Int :=
  if isName b.name then if refShape b then 1 else if b.steps.any (fun l => decide (l.l.length = 0)) then 1 else
    if (sets b).any (fun l => decide (l.l.length > 64)) then 2 else if (sets b).any (fun l => l.l.any bad) then 1 else 0
  else 7

/-- what the program says of the shape -/
def shape (b : Bin) : Bool :=
  if (b.kind != 0 && b.kind != 1 && b.kind != 2) then false else if ((b.steps.length : Int) == 0) then decide ((b.ranges.l.length : Int) > 0) else
    if (decide ((b.ranges.l.length : Int) > 0) || b.kind != 0 || decide ((b.steps.length : Int) < 2) || decide ((b.steps.length : Int) > 8)) then false else !(b.steps.any (fun l => decide (l.l.length = 0)))

theorem shape_bool : ∀ (n p z o t r s0 s1 s8 E : Bool), ((n || p || z || o || t) && !(n && p) && !(n && z) && !(n && o) && !(n && t) && !(p && z) && !(p && o) && !(p && t) && !(z && o) && !(z && t) && !(o && t) && !(s0 && s1) && !(s0 && s8) && !(s1 && s8) && !(s0 && E)) = true →
    (if (!z && !o && !t) then false else if s0 then r else if (r || !z || (s0 || s1) || s8) then false else !E) = (!(n || p || (r == !s0) || (!z && !s0) || s1 || s8) && !E) := by decide +kernel
theorem shape_num (k r s : Int) (E : Bool) (hs : 0 ≤ s) (hE : s = 0 → E = false) :
    (if (k != 0 && k != 1 && k != 2) then false else if (s == 0) then decide (r > 0) else if (decide (r > 0) || k != 0 || decide (s < 2) || decide (s > 8)) then false else !E) =
    (!(decide (k < 0) || decide (k > 2) || (decide (r > 0) == decide (s > 0)) || (k != 0 && decide (s > 0)) || (s == 1) || decide (s > 8)) && !E) := by
  have h1 : decide (s > 0) = !(s == 0) := by rw [Bool.eq_iff_iff]; simp; omega
  have h2 : decide (s < 2) = ((s == 0) || (s == 1)) := by rw [Bool.eq_iff_iff]; simp; omega
  rw [h1, h2]
  have key := shape_bool (decide (k < 0)) (decide (k > 2)) (k == 0) (k == 1) (k == 2) (decide (r > 0)) (s == 0) (s == 1) (decide (s > 8)) E ?_
  · exact key
  · have a1 : (decide (k < 0) || decide (k > 2) || (k == 0) || (k == 1) || (k == 2)) = true := by simp; omega
    have no : ∀ (p q : Prop) [Decidable p] [Decidable q], ¬ (p ∧ q) → (!(decide p && decide q)) = true := by
      intro p q _ _ h; by_cases hp : p <;> by_cases hq : q <;> simp_all
    have e0 : (s == 0 && E) = false := by
      by_cases hz : s = 0
      · rw [hE hz]; simp
      · simp [hz]
    have b0 : (k == 0) = decide (k = 0) := rfl
    have b1 : (k == 1) = decide (k = 1) := rfl
    have b2 : (k == 2) = decide (k = 2) := rfl
    have c0 : (s == 0) = decide (s = 0) := rfl
    have c1 : (s == 1) = decide (s = 1) := rfl
    rw [e0]
    rw [b0, b1, b2] at a1 ⊢
    rw [c0, c1, a1, no _ _ (show ¬ (k < 0 ∧ k > 2) by omega), no _ _ (show ¬ (k < 0 ∧ k = 0) by omega), no _ _ (show ¬ (k < 0 ∧ k = 1) by omega), no _ _ (show ¬ (k < 0 ∧ k = 2) by omega),
      no _ _ (show ¬ (k > 2 ∧ k = 0) by omega), no _ _ (show ¬ (k > 2 ∧ k = 1) by omega), no _ _ (show ¬ (k > 2 ∧ k = 2) by omega), no _ _ (show ¬ (k = 0 ∧ k = 1) by omega), no _ _ (show ¬ (k = 0 ∧ k = 2) by omega), no _ _ (show ¬ (k = 1 ∧ k = 2) by omega),
      no _ _ (show ¬ (s = 0 ∧ s = 1) by omega), no _ _ (show ¬ (s = 0 ∧ s > 8) by omega), no _ _ (show ¬ (s = 1 ∧ s > 8) by omega)]
    rfl
theorem shape_eq (b : Bin) : shape b = (!refShape b && !(b.steps.any (fun l => decide (l.l.length = 0)))) :=
  shape_num b.kind b.ranges.l.length b.steps.length _ (by omega) (fun h => by
    have : b.steps = [] := List.eq_nil_of_length_eq_zero (by omega)
    rw [this]; rfl)

theorem shape_prog (G : Nat → AV) (b : Bin) (h : Hp) (hl : b.steps.length ≤ 1099511627776) : PCall (En G) 201 [.agg (encB b)] h (.bool (shape b)) := by
  refine ACalls.pure0 rfl ?_
  refine acalls_of (H := Hint.none) (enM G) Tryz.func201 rfl (by kernel_rfl) (by kernel_rfl) (Nat.le_of_ble_eq_true (by kernel_rfl)) ?_
  show awp _ _ _ _ _ (endQ _ [.tmp 2] _)
  simp -implicitDefEqProofs only [awp_seq, awp_block, awp_reg, seqQ_n, WW_one, WW_nil, WW_guardE, GX_some, gdstO, none_md, none_fz, frz_nil, ownOp, wc_app, wcont_s, upd_app, ev_tmp, ev_const, av_int, av_bool, x_move, x_assign, x_box, x_load, x_bin, x_fieldAddr, x_len, holdsO_some, holdsO_ofO, bin_neq, frameOf_zero, ↓reduceIte, Nat.reduceEqDiff, Nat.zero_add, Option.getD_some, Bool.not_false, enP, ln119, fa121_1, fa121_3, bxB, load_last ag119, load_last ag118, load_last ag3, encB1, encB2, encB3, List.length_map]
  refine G1_mid (fun F H => F 7 = .bool (b.kind != 0 && b.kind != 1 && b.kind != 2) ∧ F 1 = .ptr h.length 0 0 ∧ F 3 = .int .i64 b.steps.length ∧ H = h ++ [.live 4 [encB b]]) ?_ ?_
  · refine G1_of (fun ha => ?_) (fun ha => ?_)
    · simp -implicitDefEqProofs only [WW_one, WW_guardE, GX_some, gdstO, G1_tt, none_md, none_fz, frz_nil, ownOp, wc_app, wcont_s, upd_app, ev_tmp, ev_const, av_int, av_bool, x_move, x_pick, pick_t, x_load, x_bin, x_fieldAddr, holdsO_ofO, bin_neq, ↓reduceIte, Nat.reduceEqDiff, Nat.zero_add, Option.getD_some, Bool.not_false, enP, fa121_1, ha, load_last ag3, encB1]
      refine G1_of (fun hb => ?_) (fun hb => ?_)
      · simp -implicitDefEqProofs only [WW_one, WW_nil, WW_guardE, GX_some, gdstO, G1_tt, none_md, none_fz, frz_nil, ownOp, wc_app, wcont_s, upd_app, ev_tmp, ev_const, av_int, av_bool, x_assign, x_pick, pick_t, x_load, x_bin, x_fieldAddr, holdsO_ofO, bin_neq, ↓reduceIte, Nat.reduceEqDiff, Nat.zero_add, Option.getD_some, Bool.not_false, enP, fa121_1, hb, load_last ag3, encB1]
        exact ⟨rfl, trivial, trivial, trivial⟩
      · simp -implicitDefEqProofs only [WW_one, WW_nil, WW_guardE, GX_some, gdstO, G1_tf, none_md, none_fz, frz_nil, ownOp, wc_app, wcont_s, upd_app, aput, ev_tmp, ev_const, av_bool, x_assign, x_pick, pick_f, ↓reduceIte, Nat.reduceEqDiff, Option.getD_some, Bool.not_false, hb]
        exact ⟨rfl, trivial, trivial, trivial⟩
    · simp -implicitDefEqProofs only [WW_one, WW_nil, WW_guardE, GX_some, gdstO, G1_tf, none_md, none_fz, frz_nil, ownOp, wc_app, wcont_s, upd_app, aput, ev_tmp, ev_const, av_bool, x_move, x_assign, x_pick, pick_f, ↓reduceIte, Nat.reduceEqDiff, Option.getD_some, Bool.not_false, ha]
      exact ⟨rfl, trivial, trivial, trivial⟩
  rintro F H ⟨f7, f1, f3, rfl⟩
  simp -implicitDefEqProofs only [awp_cond, seqQ_n, ev_tmp, f7, f1, f3]
  refine cond_of (fun hk => ?_) (fun hk => ?_)
  · simp -implicitDefEqProofs only [awp_seq, awp_reg, awp_ret, seqQ_n, seqQ_r, blk_r, end_r, WW_one, WW_nil, none_md, none_fz, frz_nil, ownOp, wc_app, wcont_s, upd_app, ev_const, av_bool, x_assign, ↓reduceIte, Option.getD_some, Bool.not_false]
    exact ⟨by unfold shape; rw [if_pos hk], _, rfl⟩
  have hk' : ¬ (b.kind != 0 && b.kind != 1 && b.kind != 2) = true := by rw [hk]; simp
  simp -implicitDefEqProofs only [awp_seq, awp_reg, awp_cond, seqQ_n, WW_one, WW_nil, none_md, none_fz, frz_nil, ownOp, wc_app, wcont_s, upd_app, ev_tmp, ev_const, av_int, x_move, x_assign, x_bin, holdsO_ofO, bin_eql, ↓reduceIte, Option.getD_some, Bool.not_false, enP, f1, f3]
  refine cond_of (fun hs => ?_) (fun hs => ?_)
  · simp -implicitDefEqProofs only [awp_seq, awp_reg, awp_ret, seqQ_n, seqQ_r, blk_r, end_r, WW_one, WW_nil, none_md, none_fz, frz_nil, ownOp, wc_app, wcont_s, upd_app, ev_tmp, ev_const, av_int, x_assign, x_load, x_bin, x_fieldAddr, x_len, holdsO_ofO, bin_gtr, ↓reduceIte, Nat.reduceEqDiff, Nat.zero_add, Option.getD_some, Bool.not_false, enP, ln118, fa121_2, f1, load_last ag118, encB2, List.length_map]
    exact ⟨by unfold shape; rw [if_neg hk', if_pos hs], _, rfl⟩
  have hs' : ¬ ((b.steps.length : Int) == 0) = true := by rw [hs]; simp
  simp -implicitDefEqProofs only [awp_seq, awp_reg, WW_one, WW_guardE, GX_some, gdstO, none_md, none_fz, frz_nil, ownOp, wc_app, wcont_s, upd_app, ev_tmp, ev_const, av_int, x_move, x_load, x_bin, x_fieldAddr, x_len, holdsO_ofO, bin_gtr, ↓reduceIte, Nat.reduceEqDiff, Nat.zero_add, Option.getD_some, Bool.not_false, enP, ln118, fa121_2, f1, f3, load_last ag118, encB2, List.length_map]
  refine G1_mid (fun F H => F 28 = .bool (decide ((b.ranges.l.length : Int) > 0) || b.kind != 0 || decide ((b.steps.length : Int) < 2) || decide ((b.steps.length : Int) > 8)) ∧ F 1 = .ptr h.length 0 0 ∧ H = h ++ [.live 4 [encB b]]) ?_ ?_
  · refine G1_of (fun ha => ?_) (fun ha => ?_)
    · simp -implicitDefEqProofs only [Bool.true_or, WW_one, WW_nil, WW_guardE, GX_some, gdstO, G1_ft, none_md, none_fz, frz_nil, ownOp, wc_app, wcont_s, upd_app, aput, ev_tmp, ev_const, av_bool, x_move, x_assign, x_pick, pick_t, ↓reduceIte, Nat.reduceEqDiff, Option.getD_some, Bool.not_false, ha, f1]
      exact ⟨trivial, trivial, trivial⟩
    simp -implicitDefEqProofs only [Bool.false_or, WW_one, WW_guardE, GX_some, gdstO, G1_ff, none_md, none_fz, frz_nil, ownOp, wc_app, wcont_s, upd_app, ev_tmp, ev_const, av_int, av_bool, x_move, x_pick, pick_f, x_load, x_bin, x_fieldAddr, holdsO_ofO, bin_neq, ↓reduceIte, Nat.reduceEqDiff, Nat.zero_add, Option.getD_some, Bool.not_false, enP, fa121_1, ha, f1, load_last ag3, encB1]
    refine G1_of (fun hb => ?_) (fun hb => ?_)
    · simp -implicitDefEqProofs only [Bool.true_or, WW_one, WW_nil, WW_guardE, GX_some, gdstO, G1_ft, none_md, none_fz, frz_nil, ownOp, wc_app, wcont_s, upd_app, aput, ev_tmp, ev_const, av_bool, x_move, x_assign, x_pick, pick_t, ↓reduceIte, Nat.reduceEqDiff, Option.getD_some, Bool.not_false, hb, f1]
      exact ⟨trivial, trivial, trivial⟩
    simp -implicitDefEqProofs only [Bool.false_or, WW_one, WW_guardE, GX_some, gdstO, G1_ff, none_md, none_fz, frz_nil, ownOp, wc_app, wcont_s, upd_app, ev_tmp, ev_const, av_int, av_bool, x_move, x_pick, pick_f, x_bin, holdsO_ofO, bin_lss, ↓reduceIte, Nat.reduceEqDiff, Option.getD_some, Bool.not_false, enP, hb, f1, f3]
    refine G1_of (fun hc => ?_) (fun hc => ?_)
    · simp -implicitDefEqProofs only [Bool.true_or, WW_one, WW_nil, WW_guardE, GX_some, gdstO, G1_ft, none_md, none_fz, frz_nil, ownOp, wc_app, wcont_s, upd_app, aput, ev_tmp, ev_const, av_bool, x_assign, x_pick, pick_t, ↓reduceIte, Nat.reduceEqDiff, Option.getD_some, Bool.not_false, hc, f1]
      exact ⟨trivial, trivial, trivial⟩
    · simp -implicitDefEqProofs only [Bool.false_or, WW_one, WW_nil, WW_guardE, GX_some, gdstO, G1_ff, none_md, none_fz, frz_nil, ownOp, wc_app, wcont_s, upd_app, ev_tmp, ev_const, av_int, av_bool, x_move, x_assign, x_pick, pick_f, x_bin, holdsO_ofO, bin_gtr, ↓reduceIte, Nat.reduceEqDiff, Option.getD_some, Bool.not_false, enP, hc, f1, f3]
      exact ⟨trivial, trivial, trivial⟩
  rintro F H ⟨f28, f1, rfl⟩
  simp -implicitDefEqProofs only [awp_cond, seqQ_n, ev_tmp, f28, f1]
  refine cond_of (fun ho => ?_) (fun ho => ?_)
  · simp -implicitDefEqProofs only [awp_seq, awp_reg, awp_ret, seqQ_n, seqQ_r, blk_r, end_r, WW_one, WW_nil, none_md, none_fz, frz_nil, ownOp, wc_app, wcont_s, upd_app, ev_const, av_bool, x_assign, ↓reduceIte, Option.getD_some, Bool.not_false]
    exact ⟨by unfold shape; rw [if_neg hk', if_neg hs', if_pos ho], _, rfl⟩
  have ho' : ¬ (decide ((b.ranges.l.length : Int) > 0) || b.kind != 0 || decide ((b.steps.length : Int) < 2) || decide ((b.steps.length : Int) > 8)) = true := by rw [ho]; simp
  simp -implicitDefEqProofs only [awp_seq, awp_reg, awp_skip, seqQ_n, blk_n, WW_one, none_md, none_fz, frz_nil, ownOp, wc_app, wcont_s, upd_app, ev_tmp, ev_func, x_load, x_fieldAddr, X1_call, callA_fn, holdsO_ofO, List.map_cons, List.map_nil, List.append_nil, ↓reduceIte, Nat.zero_add, Option.getD_some, Bool.not_false, enP, fa121_3, f1, load_last ag119, encB3]
  refine (containsFunc27 G b.steps b.sm 235 [] (fun l => decide (l.l.length = 0)) _ hl fun r => empty_fn G r _).use ?_
  simp -implicitDefEqProofs only [awp_ret, seqQ_n, end_r, WW_one, WW_nil, none_md, none_fz, frz_nil, ownOp, wc_app, wcont_s, upd_app, ev_tmp, x_assign, x_un, holdsO_ofO, un_not, ↓reduceIte, Option.getD_some, Bool.not_false]
  exact ⟨by unfold shape; rw [if_neg hk', if_neg hs', if_neg ho'], _, rfl⟩

theorem validE_name {b : Bin} (h : isName b.name = false) : validE b = 7 := by unfold validE; rw [h]; rfl
theorem validE_shape {b : Bin} (h : isName b.name = true) (hs : refShape b = true) : validE b = 1 := by unfold validE; rw [h, hs]; rfl
theorem validE_empty {b : Bin} (h : isName b.name = true) (hs : b.steps.any (fun l => decide (l.l.length = 0)) = true) : validE b = 1 := by
  unfold validE; rw [h, hs]; cases refShape b <;> rfl
theorem validE_sets {b : Bin} (h : isName b.name = true) (hs : refShape b = false) (he : b.steps.any (fun l => decide (l.l.length = 0)) = false) :
    validE b = if (sets b).any (fun l => decide (l.l.length > 64)) then 2 else if (sets b).any (fun l => l.l.any bad) then 1 else 0 := by
  unfold validE; rw [h, hs, he]; rfl

/-- a bin that fits -/
structure BinOk (b : Bin) : Prop where
  num : (sets b).length ≤ 1099511627776
  name : b.name.size ≤ 1099511627776
  steps : b.steps.length ≤ 1099511627776
  sets : ∀ l ∈ sets b, l.l.length ≤ 1099511627776

theorem rangesE_two (xs : List Rng) : decide (rangesE xs = 2) = decide (xs.length > 64) := by
  unfold rangesE
  split
  · simp_all
  · split <;> simp_all
theorem rangesE_one (xs : List Rng) : decide (rangesE xs = 1) = (decide (¬ xs.length > 64) && xs.any bad) := by
  unfold rangesE
  split
  · rename_i h; simp [h]
  · rename_i h
    split
    · rename_i h2; simp only [h2, h]; rfl
    · rename_i h2; simp only [Bool.not_eq_true] at h2; simp only [h2]; simp
theorem validE_E {b : Bin} (h : isName b.name = true) (hs : refShape b = false) (he : b.steps.any (fun l => decide (l.l.length = 0)) = false) :
    validE b = if (sets b).any (fun l => decide (rangesE l.l = 2)) then 2 else if (sets b).any (fun l => decide (rangesE l.l = 1)) then 1 else 0 := by
  rw [validE_sets h hs he]
  simp only [rangesE_two]
  split
  · rfl
  · rename_i hn
    have : (sets b).any (fun l => decide (rangesE l.l = 1)) = (sets b).any (fun l => l.l.any bad) := by
      rw [Bool.eq_iff_iff, List.any_eq_true, List.any_eq_true]
      constructor
      · rintro ⟨l, h1, h2⟩
        rw [rangesE_one] at h2
        simp only [Bool.and_eq_true] at h2
        exact ⟨l, h1, h2.2⟩
      · rintro ⟨l, h1, h2⟩
        refine ⟨l, h1, ?_⟩
        rw [rangesE_one, h2]
        rw [Bool.not_eq_true, List.any_eq_false] at hn
        have := hn l h1
        simp only [decide_eq_true_eq] at this
        simp only [this, not_false_eq_true, decide_true, Bool.and_self]
    rw [this]

theorem any_take {α : Type} (p : α → Bool) (xs : List α) (k : Nat) (h : k < xs.length) : (xs.take (k+1)).any p = ((xs.take k).any p || p xs[k]) := by
  rw [List.take_succ_eq_append_getElem h, List.any_append, List.any_cons, List.any_nil, Bool.or_false]

theorem valid_prog (G : Nat → AV) (hG : KwG G) (b : Bin) (hb : BinOk b) (h : Hp) : PCall (En G) 152 [.agg (encB b)] h (.int .i64 (validE b)) := by
  refine ACalls.pure0 rfl ?_
  refine acalls_of (H := Hint.none) (enM G) Tryz.func152 rfl (by kernel_rfl) (by kernel_rfl) (Nat.le_of_ble_eq_true (by kernel_rfl)) ?_
  show awp _ _ _ _ _ (endQ _ [.tmp 2] _)
  simp -implicitDefEqProofs only [awp_seq, awp_reg, seqQ_n, WW_one, WW_nil, none_md, none_fz, frz_nil, ownOp, wc_app, wcont_s, upd_app, ev_tmp, ev_const, ev_func, av_int, x_assign, x_box, x_load, x_fieldAddr, X1_call, callA_fn, holdsO_some, holdsO_ofO, frameOf_zero, List.map_cons, List.map_nil, List.append_nil, ↓reduceIte, Nat.reduceEqDiff, Nat.add_zero, Option.getD_some, Bool.not_false, enP, fa121_0, bxB, load_last ag9, encB0]
  refine (isName_prog G hG b.name _ hb.name).use ?_
  simp -implicitDefEqProofs only [awp_cond, seqQ_n, WW_one, WW_nil, none_md, none_fz, frz_nil, ownOp, wc_app, wcont_s, upd_app, ev_tmp, x_un, holdsO_ofO, un_not, ↓reduceIte, Option.getD_some, Bool.not_false]
  refine cond_of (fun hn => ?_) (fun hn => ?_)
  · simp -implicitDefEqProofs only [awp_seq, awp_reg, awp_ret, seqQ_n, seqQ_r, end_r, WW_one, WW_nil, none_md, none_fz, frz_nil, ownOp, wc_app, wcont_s, upd_app, ev_const, av_int, x_assign, ↓reduceIte, Option.getD_some, Bool.not_false]
    exact ⟨by rw [validE_name (by simpa using hn)], _, rfl⟩
  have hn' : isName b.name = true := by simpa using hn
  simp -implicitDefEqProofs only [awp_seq, awp_reg, awp_skip, seqQ_n, WW_one, none_md, none_fz, frz_nil, ownOp, wc_app, wcont_s, upd_app, ev_tmp, ev_func, x_load, X1_call, callA_fn, holdsO_ofO, List.map_cons, List.map_nil, List.append_nil, ↓reduceIte, Nat.reduceEqDiff, Option.getD_some, Bool.not_false, enP, ldB]
  refine (shape_prog G b _ hb.steps).use ?_
  simp -implicitDefEqProofs only [awp_cond, seqQ_n, WW_one, WW_nil, none_md, none_fz, frz_nil, ownOp, wc_app, wcont_s, upd_app, ev_tmp, x_un, holdsO_ofO, un_not, ↓reduceIte, Option.getD_some, Bool.not_false]
  refine cond_of (fun hs => ?_) (fun hs => ?_)
  · simp -implicitDefEqProofs only [awp_seq, awp_reg, awp_ret, seqQ_n, seqQ_r, end_r, WW_one, WW_nil, none_md, none_fz, frz_nil, ownOp, wc_app, wcont_s, upd_app, ev_const, av_int, x_assign, ↓reduceIte, Option.getD_some, Bool.not_false]
    refine ⟨?_, _, rfl⟩
    have h1 : shape b = false := by simpa using hs
    rw [shape_eq] at h1
    cases hr : refShape b with
    | true => rw [validE_shape hn' hr]
    | false =>
      rw [hr] at h1
      rw [validE_empty hn' (by simpa using h1)]
  have h1 : shape b = true := by simpa using hs
  rw [shape_eq] at h1
  simp only [Bool.and_eq_true, Bool.not_eq_true'] at h1
  have hv := validE_sets hn' h1.1 h1.2
  simp -implicitDefEqProofs only [awp_seq, awp_reg, awp_skip, seqQ_n, WW_one, WW_nil, none_md, none_fz, frz_nil, ownOp, wc_app, wcont_s, upd_app, ev_tmp, ev_const, ev_func, av_bool, x_assign, x_load, X1_call, callA_fn, holdsO_ofO, List.map_cons, List.map_nil, List.append_nil, ↓reduceIte, Nat.reduceEqDiff, Option.getD_some, Bool.not_false, enP, ldB]
  refine (sets_prog G b _).use ?_
  simp -implicitDefEqProofs only [awp_block, seqQ_n, WW_one, WW_nil, none_md, none_fz, frz_nil, ownOp, wc_app, wcont_s, upd_app, ev_tmp, ev_const, av_int, x_move, x_len, holdsO_ofO, ↓reduceIte, Option.getD_some, Bool.not_false, enP, ln119, List.length_map]
  refine awp_loop (fun n F H => ∃ k, n + k = (sets b).length ∧ F 3 = .bool (((sets b).take k).any fun l => decide (rangesE l.l = 2)) ∧ F 4 = .bool (((sets b).take k).any fun l => decide (rangesE l.l = 1)) ∧ F 15 = .sl (setsM b) 1 ((sets b).map encS) ∧ F 16 = .int .i64 (sets b).length ∧ F 17 = .int .i64 (k : Nat) ∧ H = h ++ [.live 4 [encB b]]) (sets b).length ⟨0, by simp, rfl, rfl, rfl, rfl, rfl, rfl⟩ ?_
  rintro n F H ⟨k, hk, f3, f4, f15, f16, f17, rfl⟩
  simp -implicitDefEqProofs only [awp_seq, awp_reg, awp_cond, seqQ_n, WW_one, WW_nil, none_md, none_fz, frz_nil, ownOp, wc_app, wcont_s, upd_app, ev_tmp, x_bin, holdsO_ofO, bin_lss, ↓reduceIte, Option.getD_some, Bool.not_false, enP, f15, f16, f17]
  refine cond_of (fun hc => ?_) (fun hc => ?_)
  · have hc' : k < (sets b).length := by simpa using hc
    simp -implicitDefEqProofs only [awp_seq, awp_block, awp_reg, awp_skip, seqQ_n, WW_one, WW_nil, none_md, none_fz, frz_nil, ownOp, wc_app, wcont_s, upd_app, ev_tmp, ev_func, x_move, x_assign, x_load, x_indexAddr, X1_call, callA_fn, holdsO_ofO, List.map_cons, List.map_nil, List.append_nil, ↓reduceIte, Nat.reduceEqDiff, Option.getD_some, Bool.not_false, enP, ix119, f15, f17, ix_map hc', load_map ag118 hc', encS0]
    refine (ranges_prog G _ _ _ (hb.sets _ (List.getElem_mem hc'))).use ?_
    have t2 := any_take (fun l : Rs => decide (rangesE l.l = 2)) (sets b) k hc'
    have t1 := any_take (fun l : Rs => decide (rangesE l.l = 1)) (sets b) k hc'
    simp -implicitDefEqProofs only [awp_seq, awp_block, awp_reg, awp_cond, seqQ_n, WW_one, WW_nil, none_md, none_fz, frz_nil, ownOp, wc_app, wcont_s, upd_app, ev_tmp, ev_const, av_int, x_assign, x_bin, holdsO_ofO, bin_eql, ↓reduceIte, Option.getD_some, Bool.not_false, enP]
    refine cond_of (fun hd => ?_) (fun hd => ?_)
    · have hd' : rangesE (sets b)[k].l = 2 := by simpa using hd
      simp -implicitDefEqProofs only [awp_reg, seqQ_n, blk_n, rnd_n, WW_one, WW_nil, none_md, none_fz, frz_nil, ownOp, wc_app, wcont_s, upd_app, ev_tmp, ev_const, av_int, av_bool, x_move, x_assign, x_bin, holdsO_ofO, bin_add, ↓reduceIte, Nat.reduceEqDiff, Option.getD_some, Bool.not_false, enP, f17, wrap_succ (show k < 9223372036854775807 by have := hb.num; omega)]
      refine ⟨n - 1, by omega, k + 1, by omega, ?_, ?_, f15, f16, rfl, trivial⟩
      · rw [t2, hd']; simp
      · rw [f4, t1, hd']; simp
    simp -implicitDefEqProofs only [awp_seq, awp_reg, awp_cond, seqQ_n, WW_one, WW_nil, none_md, none_fz, frz_nil, ownOp, wc_app, wcont_s, upd_app, ev_tmp, ev_const, av_int, x_assign, x_bin, holdsO_ofO, bin_eql, ↓reduceIte, Nat.reduceEqDiff, Option.getD_some, Bool.not_false, enP]
    refine cond_of (fun he => ?_) (fun he => ?_)
    · have he' : rangesE (sets b)[k].l = 1 := by simpa using he
      simp -implicitDefEqProofs only [awp_reg, seqQ_n, blk_n, rnd_n, WW_one, WW_nil, none_md, none_fz, frz_nil, ownOp, wc_app, wcont_s, upd_app, ev_tmp, ev_const, av_int, av_bool, x_move, x_assign, x_bin, holdsO_ofO, bin_add, ↓reduceIte, Nat.reduceEqDiff, Option.getD_some, Bool.not_false, enP, f17, wrap_succ (show k < 9223372036854775807 by have := hb.num; omega)]
      refine ⟨n - 1, by omega, k + 1, by omega, ?_, ?_, f15, f16, rfl, trivial⟩
      · rw [f3, t2, he']; simp
      · rw [t1, he']; simp
    · have hd' : rangesE (sets b)[k].l ≠ 2 := by simpa using hd
      have he' : rangesE (sets b)[k].l ≠ 1 := by simpa using he
      simp -implicitDefEqProofs only [awp_reg, awp_skip, seqQ_n, blk_n, rnd_n, WW_one, WW_nil, none_md, none_fz, frz_nil, ownOp, wc_app, wcont_s, upd_app, ev_tmp, ev_const, av_int, x_move, x_bin, holdsO_ofO, bin_add, ↓reduceIte, Nat.reduceEqDiff, Option.getD_some, Bool.not_false, enP, f17, wrap_succ (show k < 9223372036854775807 by have := hb.num; omega)]
      refine ⟨n - 1, by omega, k + 1, by omega, ?_, ?_, f15, f16, rfl, trivial⟩
      · rw [f3, t2]; simp [hd']
      · rw [f4, t1]; simp [he']
  · have hc' : ¬ k < (sets b).length := by simpa using hc
    rw [List.take_of_length_le (by omega)] at f3 f4
    have hE := validE_E hn' h1.1 h1.2
    simp -implicitDefEqProofs only [awp_seq, awp_block, awp_reg, awp_exit, awp_cond, seqQ_n, seqQ_e, blk_e, rnd_e, WW_one, WW_nil, none_md, none_fz, frz_nil, ownOp, wc_app, wcont_s, upd_app, ev_tmp, x_move, x_assign, ↓reduceIte, Nat.reduceEqDiff, Option.getD_some, Bool.not_false, f3, f4]
    refine cond_of (fun hd => ?_) (fun hd => ?_)
    · simp -implicitDefEqProofs only [awp_seq, awp_reg, awp_ret, seqQ_n, seqQ_r, blk_r, end_r, WW_one, WW_nil, none_md, none_fz, frz_nil, ownOp, wc_app, wcont_s, upd_app, ev_const, av_int, x_assign, ↓reduceIte, Option.getD_some, Bool.not_false]
      exact ⟨by rw [hE, if_pos hd], _, rfl⟩
    simp -implicitDefEqProofs only [awp_seq, awp_reg, awp_cond, seqQ_n, WW_one, WW_nil, none_md, none_fz, frz_nil, ownOp, wc_app, wcont_s, upd_app, ev_tmp, x_move, x_assign, ↓reduceIte, Nat.reduceEqDiff, Option.getD_some, Bool.not_false, f4]
    refine cond_of (fun he => ?_) (fun he => ?_)
    · simp -implicitDefEqProofs only [awp_seq, awp_reg, awp_ret, seqQ_n, seqQ_r, blk_r, end_r, WW_one, WW_nil, none_md, none_fz, frz_nil, ownOp, wc_app, wcont_s, upd_app, ev_const, av_int, x_assign, ↓reduceIte, Option.getD_some, Bool.not_false]
      exact ⟨by rw [hE, if_neg (by rw [hd]; simp), if_pos he], _, rfl⟩
    · simp -implicitDefEqProofs only [awp_seq, awp_reg, awp_skip, awp_ret, seqQ_n, blk_n, end_r, WW_one, WW_nil, none_md, none_fz, frz_nil, ownOp, wc_app, wcont_s, upd_app, ev_const, av_int, x_assign, ↓reduceIte, Option.getD_some, Bool.not_false]
      exact ⟨by rw [hE, if_neg (by rw [hd]; simp), if_neg (by rw [he]; simp)], _, rfl⟩
end Go.Proofs.YtocilianjfhifaaGreatDoor.Bins
/- The contract of the reference's Valid; no condition. -/
set_option linter.unusedSimpArgs false
set_option maxRecDepth 8000
namespace Go.Proofs.YtocilianjfhifaaGreatDoor.Bins
open Go Go.Proofs.YtocilianjfhifaaGreatDoor.Sm

theorem valid_ref (G : Nat → AV) (b : Bin) (hb : BinOk b) (h : Hp) : PCall (En G) 162 [.agg (encB b)] h (.int .i64 (validE b)) := by
  refine ACalls.pure0 rfl ?_
  refine acalls_of (H := Hint.none) (enM G) Tryz.func162 rfl (by kernel_rfl) (by kernel_rfl) (Nat.le_of_ble_eq_true (by kernel_rfl)) ?_
  show awp _ _ _ _ _ (endQ _ [.tmp 2] _)
  simp -implicitDefEqProofs only [awp_seq, awp_reg, seqQ_n, WW_one, WW_nil, none_md, none_fz, frz_nil, ownOp, wc_app, wcont_s, upd_app, ev_tmp, ev_const, ev_func, av_int, x_assign, x_box, x_load, x_fieldAddr, X1_call, callA_fn, holdsO_some, holdsO_ofO, frameOf_zero, List.map_cons, List.map_nil, List.append_nil, ↓reduceIte, Nat.reduceEqDiff, Nat.add_zero, Option.getD_some, Bool.not_false, enP, fa121_0, bxB, load_last ag9, encB0]
  refine (isName_ref G b.name _).use ?_
  simp -implicitDefEqProofs only [awp_cond, seqQ_n, WW_one, WW_nil, none_md, none_fz, frz_nil, ownOp, wc_app, wcont_s, upd_app, ev_tmp, x_un, holdsO_ofO, un_not, ↓reduceIte, Option.getD_some, Bool.not_false]
  refine cond_of (fun hn => ?_) (fun hn => ?_)
  · simp -implicitDefEqProofs only [awp_seq, awp_reg, awp_ret, seqQ_n, seqQ_r, end_r, WW_one, WW_nil, none_md, none_fz, frz_nil, ownOp, wc_app, wcont_s, upd_app, ev_const, av_int, x_assign, ↓reduceIte, Option.getD_some, Bool.not_false]
    exact ⟨by rw [validE_name (by simpa using hn)], _, rfl⟩
  have hn' : isName b.name = true := by simpa using hn
  simp -implicitDefEqProofs only [awp_seq, awp_reg, awp_skip, seqQ_n, WW_one, WW_guardE, GX_some, gdstO, none_md, none_fz, frz_nil, ownOp, wc_app, wcont_s, upd_app, ev_tmp, ev_const, av_int, x_move, x_load, x_bin, x_fieldAddr, holdsO_ofO, bin_lss, ↓reduceIte, Nat.reduceEqDiff, Nat.zero_add, Option.getD_some, Bool.not_false, enP, fa121_1, load_last ag3, encB1]
  refine G1_mid (fun F H => F 53 = .bool (refShape b) ∧ F 1 = .ptr h.length 0 0 ∧ H = h ++ [.live 4 [encB b]]) ?_ ?_
  · refine G1_of (fun ha => ?_) (fun ha => ?_)
    · simp -implicitDefEqProofs only [WW_one, WW_nil, WW_guardE, GX_some, gdstO, G1_ft, G1_u, none_md, none_fz, frz_nil, ownOp, wc_app, wcont_s, upd_app, aput, ev_tmp, ev_const, av_bool, x_move, x_pick, pick_t, ↓reduceIte, Nat.reduceEqDiff, Option.getD_some, Bool.not_false, ha]
      exact ⟨by unfold refShape; rw [ha]; rfl, trivial, trivial⟩
    simp -implicitDefEqProofs only [WW_one, WW_guardE, GX_some, gdstO, G1_ff, none_md, none_fz, frz_nil, ownOp, wc_app, wcont_s, upd_app, ev_tmp, ev_const, av_int, av_bool, x_move, x_pick, pick_f, x_load, x_bin, x_fieldAddr, holdsO_ofO, bin_gtr, ↓reduceIte, Nat.reduceEqDiff, Nat.zero_add, Option.getD_some, Bool.not_false, enP, fa121_1, ha, load_last ag3, encB1]
    refine G1_of (fun hb => ?_) (fun hb => ?_)
    · simp -implicitDefEqProofs only [WW_one, WW_nil, WW_guardE, GX_some, gdstO, G1_ft, G1_u, none_md, none_fz, frz_nil, ownOp, wc_app, wcont_s, upd_app, aput, ev_tmp, ev_const, av_bool, x_move, x_pick, pick_t, ↓reduceIte, Nat.reduceEqDiff, Option.getD_some, Bool.not_false, hb]
      exact ⟨by unfold refShape; rw [ha, hb]; rfl, trivial, trivial⟩
    simp -implicitDefEqProofs only [WW_one, WW_guardE, GX_some, gdstO, G1_ff, none_md, none_fz, frz_nil, ownOp, wc_app, wcont_s, upd_app, ev_tmp, ev_const, av_int, av_bool, x_move, x_pick, pick_f, x_load, x_bin, x_fieldAddr, x_len, holdsO_ofO, bin_gtr, ↓reduceIte, Nat.reduceEqDiff, Nat.zero_add, Option.getD_some, Bool.not_false, enP, be4, ln118, ln119, fa121_2, fa121_3, hb, load_last ag118, load_last ag119, encB2, encB3, List.length_map]
    refine G1_of (fun hc => ?_) (fun hc => ?_)
    · simp -implicitDefEqProofs only [WW_one, WW_nil, WW_guardE, GX_some, gdstO, G1_ft, G1_u, none_md, none_fz, frz_nil, ownOp, wc_app, wcont_s, upd_app, aput, ev_tmp, ev_const, av_bool, x_move, x_pick, pick_t, ↓reduceIte, Nat.reduceEqDiff, Option.getD_some, Bool.not_false, hc]
      exact ⟨by unfold refShape; rw [ha, hb, hc]; rfl, trivial, trivial⟩
    simp -implicitDefEqProofs only [WW_guardE, GX_some, gdstO, G1_ff, none_md, none_fz, frz_nil, ownOp, wc_app, wcont_s, upd_app, ev_tmp, ev_const, av_int, x_move, x_load, x_bin, x_fieldAddr, holdsO_ofO, bin_neq, ↓reduceIte, Nat.reduceEqDiff, Nat.zero_add, Option.getD_some, Bool.not_false, enP, fa121_1, hc, load_last ag3, encB1]
    refine G1_of (fun hd => ?_) (fun hd => ?_)
    · simp -implicitDefEqProofs only [WW_one, WW_guardE, GX_some, gdstO, G1_tt, G1_ff, none_md, none_fz, frz_nil, ownOp, wc_app, wcont_s, upd_app, ev_tmp, ev_const, av_int, av_bool, x_move, x_pick, pick_t, pick_f, x_load, x_bin, x_fieldAddr, x_len, holdsO_ofO, bin_gtr, ↓reduceIte, Nat.reduceEqDiff, Nat.zero_add, Option.getD_some, Bool.not_false, enP, ln119, fa121_3, hd, load_last ag119, encB3, List.length_map]
      refine G1_of (fun he => ?_) (fun he => ?_)
      · simp -implicitDefEqProofs only [WW_one, WW_nil, WW_guardE, GX_some, gdstO, G1_ft, none_md, none_fz, frz_nil, ownOp, wc_app, wcont_s, upd_app, aput, ev_tmp, ev_const, av_bool, x_move, x_pick, pick_t, ↓reduceIte, Nat.reduceEqDiff, Option.getD_some, Bool.not_false, he]
        exact ⟨by unfold refShape; rw [ha, hb, hc, hd, he]; rfl, trivial, trivial⟩
      simp -implicitDefEqProofs only [WW_one, WW_guardE, GX_some, gdstO, G1_ff, none_md, none_fz, frz_nil, ownOp, wc_app, wcont_s, upd_app, ev_tmp, ev_const, av_int, av_bool, x_move, x_pick, pick_f, x_load, x_bin, x_fieldAddr, x_len, holdsO_ofO, bin_eql, ↓reduceIte, Nat.reduceEqDiff, Nat.zero_add, Option.getD_some, Bool.not_false, enP, ln119, fa121_3, he, load_last ag119, encB3, List.length_map]
      refine G1_of (fun hf => ?_) (fun hf => ?_)
      · simp -implicitDefEqProofs only [WW_one, WW_nil, WW_guardE, GX_some, gdstO, G1_ft, none_md, none_fz, frz_nil, ownOp, wc_app, wcont_s, upd_app, aput, ev_tmp, ev_const, av_bool, x_pick, pick_t, ↓reduceIte, Nat.reduceEqDiff, Option.getD_some, Bool.not_false, hf]
        exact ⟨by unfold refShape; rw [ha, hb, hc, hd, he, hf]; rfl, trivial, trivial⟩
      · simp -implicitDefEqProofs only [WW_one, WW_nil, WW_guardE, GX_some, gdstO, G1_ff, none_md, none_fz, frz_nil, ownOp, wc_app, wcont_s, upd_app, ev_tmp, ev_const, av_int, av_bool, x_pick, pick_f, x_load, x_bin, x_fieldAddr, x_len, holdsO_ofO, bin_gtr, ↓reduceIte, Nat.reduceEqDiff, Nat.zero_add, Option.getD_some, Bool.not_false, enP, ln119, fa121_3, hf, load_last ag119, encB3, List.length_map]
        exact ⟨by unfold refShape; rw [ha, hb, hc, hd, he, hf]; rfl, trivial, trivial⟩
    · simp -implicitDefEqProofs only [WW_one, WW_guardE, GX_some, gdstO, G1_ff, G1_tf, none_md, none_fz, frz_nil, ownOp, wc_app, wcont_s, upd_app, aput, ev_tmp, ev_const, av_int, av_bool, x_move, x_pick, pick_f, x_load, x_bin, x_fieldAddr, x_len, holdsO_ofO, bin_eql, ↓reduceIte, Nat.reduceEqDiff, Nat.zero_add, Option.getD_some, Bool.not_false, enP, ln119, fa121_3, hd, load_last ag119, encB3, List.length_map]
      refine G1_of (fun hf => ?_) (fun hf => ?_)
      · simp -implicitDefEqProofs only [WW_one, WW_nil, WW_guardE, GX_some, gdstO, G1_ft, none_md, none_fz, frz_nil, ownOp, wc_app, wcont_s, upd_app, aput, ev_tmp, ev_const, av_bool, x_pick, pick_t, ↓reduceIte, Nat.reduceEqDiff, Option.getD_some, Bool.not_false, hf]
        exact ⟨by unfold refShape; rw [ha, hb, hc, hd, hf]; rfl, trivial, trivial⟩
      · simp -implicitDefEqProofs only [WW_one, WW_nil, WW_guardE, GX_some, gdstO, G1_ff, none_md, none_fz, frz_nil, ownOp, wc_app, wcont_s, upd_app, ev_tmp, ev_const, av_int, av_bool, x_pick, pick_f, x_load, x_bin, x_fieldAddr, x_len, holdsO_ofO, bin_gtr, ↓reduceIte, Nat.reduceEqDiff, Nat.zero_add, Option.getD_some, Bool.not_false, enP, ln119, fa121_3, hf, load_last ag119, encB3, List.length_map]
        exact ⟨by unfold refShape; rw [ha, hb, hc, hd, hf]; rfl, trivial, trivial⟩
  rintro F H ⟨f53, f1, rfl⟩
  simp -implicitDefEqProofs only [awp_cond, seqQ_n, ev_tmp, f53, f1]
  refine cond_of (fun hs => ?_) (fun hs => ?_)
  · simp -implicitDefEqProofs only [awp_seq, awp_reg, awp_ret, seqQ_n, seqQ_r, end_r, WW_one, WW_nil, none_md, none_fz, frz_nil, ownOp, wc_app, wcont_s, upd_app, ev_const, av_int, x_assign, ↓reduceIte, Option.getD_some, Bool.not_false]
    exact ⟨by rw [validE_shape hn' hs], _, rfl⟩
  simp -implicitDefEqProofs only [awp_seq, awp_block, awp_reg, awp_skip, seqQ_n, WW_one, WW_nil, none_md, none_fz, frz_nil, ownOp, wc_app, wcont_s, ev_const, av_int, x_assign, Option.getD_some, Bool.not_false]
  refine awp_lp 0 (fun F H => F 1 = .ptr h.length 0 0 ∧ H = h ++ [.live 4 [encB b]] ∧ b.steps.any (fun l => decide (l.l.length = 0)) = false) (fun F H => F 2 = .int .i64 (validE b) ∧ H = h ++ [.live 4 [encB b]]) ?_ ?_ ?_
  · refine awp_loop (fun n F H => ∃ k, n + k = b.steps.length ∧ F 1 = .ptr h.length 0 0 ∧ F 3 = .int .i64 (k : Nat) ∧ H = h ++ [.live 4 [encB b]] ∧ (b.steps.take k).any (fun l => decide (l.l.length = 0)) = false) b.steps.length ⟨0, by simp, by simp -implicitDefEqProofs only [upd_app, ↓reduceIte, Nat.reduceEqDiff, f1], by simp -implicitDefEqProofs only [upd_app, ↓reduceIte]; rfl, rfl, rfl⟩ ?_
    rintro n F H ⟨k, hk, f1, f3, rfl, hin⟩
    simp -implicitDefEqProofs only [awp_seq, awp_reg, awp_cond, seqQ_n, WW_one, WW_nil, none_md, none_fz, frz_nil, ownOp, wc_app, wcont_s, upd_app, ev_tmp, x_move, x_load, x_bin, x_fieldAddr, x_len, holdsO_ofO, bin_lss, ↓reduceIte, Nat.reduceEqDiff, Nat.zero_add, Option.getD_some, Bool.not_false, enP, ln119, fa121_3, f1, f3, load_last ag119, encB3, List.length_map]
    refine cond_of (fun hc => ?_) (fun hc => ?_)
    · have hc' : k < b.steps.length := by simpa using hc
      have t0 := any_take (fun l : Rs => decide (l.l.length = 0)) b.steps k hc'
      simp -implicitDefEqProofs only [awp_seq, awp_block, awp_reg, awp_skip, awp_cond, seqQ_n, WW_one, WW_nil, none_md, none_fz, frz_nil, ownOp, wc_app, wcont_s, upd_app, ev_tmp, ev_const, av_int, x_move, x_load, x_bin, x_fieldAddr, x_indexAddr, x_len, holdsO_ofO, bin_eql, ↓reduceIte, Nat.reduceEqDiff, Nat.zero_add, Option.getD_some, Bool.not_false, enP, ln118, ix119, fa121_3, f1, f3, load_last ag119, encB3, ix_map hc', load_map ag118 hc', encS0, List.length_map]
      refine cond_of (fun hd => ?_) (fun hd => ?_)
      · simp -implicitDefEqProofs only [awp_seq, awp_reg, awp_ret, seqQ_n, seqQ_r, blk_r, lp_r, rnd_r, WW_one, WW_nil, none_md, none_fz, frz_nil, ownOp, wc_app, wcont_s, upd_app, ev_const, av_int, x_assign, ↓reduceIte, Option.getD_some, Bool.not_false]
        refine ⟨?_, trivial⟩
        have : b.steps.any (fun l => decide (l.l.length = 0)) = true := by
          rw [List.any_eq_true]
          exact ⟨b.steps[k], by simp, by simp at hd; simp [hd]⟩
        rw [validE_empty hn' this]
      · simp -implicitDefEqProofs only [awp_reg, awp_skip, seqQ_n, blk_n, rnd_n, WW_one, WW_nil, none_md, none_fz, frz_nil, ownOp, wc_app, wcont_s, upd_app, ev_tmp, ev_const, av_int, x_move, x_assign, x_bin, holdsO_ofO, bin_add, ↓reduceIte, Nat.reduceEqDiff, Option.getD_some, Bool.not_false, enP, f3, wrap_succ (show k < 9223372036854775807 by have := hb.steps; omega)]
        refine ⟨n - 1, by omega, k + 1, by omega, f1, rfl, trivial, ?_⟩
        rw [t0, hin]
        simp at hd
        simp [hd]
    · have hc' : ¬ k < b.steps.length := by simpa using hc
      simp -implicitDefEqProofs only [awp_exit, seqQ_e, lp_e, rnd_e, upd_app, ↓reduceIte, Nat.reduceEqDiff]
      rw [List.take_of_length_le (by omega)] at hin
      exact ⟨f1, trivial, hin⟩
  · rintro F H ⟨f1, rfl, he⟩
    have hs' : refShape b = false := by simpa using hs
    have hv := validE_sets hn' hs' he
    simp -implicitDefEqProofs only [awp_seq, awp_reg, seqQ_n, blk_e, WW_one, none_md, none_fz, frz_nil, ownOp, wc_app, wcont_s, upd_app, ev_tmp, ev_func, x_load, X1_call, callA_fn, holdsO_ofO, List.map_cons, List.map_nil, List.append_nil, ↓reduceIte, Option.getD_some, Bool.not_false, enP, f1, ldB]
    refine (sets_ref G b _).use ?_
    simp -implicitDefEqProofs only [awp_seq, awp_block, awp_reg, seqQ_n, WW_one, WW_nil, none_md, none_fz, frz_nil, ownOp, wc_app, wcont_s, upd_app, ev_tmp, ev_const, av_int, x_assign, ↓reduceIte, Option.getD_some, Bool.not_false]
    refine awp_lp 2 (fun F H => F 4 = .sl (setsM b) 1 ((sets b).map encS) ∧ H = h ++ [.live 4 [encB b]] ∧ (sets b).any (fun l => decide (l.l.length > 64)) = false) (fun F H => F 2 = .int .i64 (validE b) ∧ H = h ++ [.live 4 [encB b]]) ?_ ?_ ?_
    · refine awp_loop (fun n F H => ∃ k, n + k = (sets b).length ∧ F 4 = .sl (setsM b) 1 ((sets b).map encS) ∧ F 5 = .int .i64 (k : Nat) ∧ H = h ++ [.live 4 [encB b]] ∧ ((sets b).take k).any (fun l => decide (l.l.length > 64)) = false) (sets b).length ⟨0, by simp, by simp -implicitDefEqProofs only [upd_app, ↓reduceIte, Nat.reduceEqDiff], by simp -implicitDefEqProofs only [upd_app, ↓reduceIte]; rfl, rfl, rfl⟩ ?_
      rintro n F H ⟨k, hk, f4, f5, rfl, hin⟩
      simp -implicitDefEqProofs only [awp_seq, awp_reg, awp_cond, seqQ_n, WW_one, WW_nil, none_md, none_fz, frz_nil, ownOp, wc_app, wcont_s, upd_app, ev_tmp, x_move, x_bin, x_len, holdsO_ofO, bin_lss, ↓reduceIte, Nat.reduceEqDiff, Option.getD_some, Bool.not_false, enP, ln119, f4, f5, List.length_map]
      refine cond_of (fun hc => ?_) (fun hc => ?_)
      · have hc' : k < (sets b).length := by simpa using hc
        have t0 := any_take (fun l : Rs => decide (l.l.length > 64)) (sets b) k hc'
        simp -implicitDefEqProofs only [awp_seq, awp_block, awp_reg, awp_skip, awp_cond, seqQ_n, WW_one, WW_nil, none_md, none_fz, frz_nil, ownOp, wc_app, wcont_s, upd_app, ev_tmp, ev_const, av_int, x_move, x_load, x_bin, x_indexAddr, x_len, holdsO_ofO, bin_gtr, ↓reduceIte, Nat.reduceEqDiff, Option.getD_some, Bool.not_false, enP, ln118, ix119, f4, f5, ix_map hc', load_map ag118 hc', encS0, List.length_map]
        refine cond_of (fun hd => ?_) (fun hd => ?_)
        · simp -implicitDefEqProofs only [awp_seq, awp_reg, awp_ret, seqQ_n, seqQ_r, blk_r, lp_r, rnd_r, WW_one, WW_nil, none_md, none_fz, frz_nil, ownOp, wc_app, wcont_s, upd_app, ev_const, av_int, x_assign, ↓reduceIte, Option.getD_some, Bool.not_false]
          refine ⟨?_, trivial⟩
          have : (sets b).any (fun l => decide (l.l.length > 64)) = true := by
            rw [List.any_eq_true]
            exact ⟨(sets b)[k], by simp, by simp at hd ⊢; omega⟩
          rw [hv, if_pos this]
        · simp -implicitDefEqProofs only [awp_reg, awp_skip, seqQ_n, blk_n, rnd_n, WW_one, WW_nil, none_md, none_fz, frz_nil, ownOp, wc_app, wcont_s, upd_app, ev_tmp, ev_const, av_int, x_move, x_assign, x_bin, holdsO_ofO, bin_add, ↓reduceIte, Nat.reduceEqDiff, Option.getD_some, Bool.not_false, enP, f5, wrap_succ (show k < 9223372036854775807 by have := hb.num; omega)]
          refine ⟨n - 1, by omega, k + 1, by omega, f4, rfl, trivial, ?_⟩
          rw [t0, hin]
          simp at hd ⊢
          omega
      · have hc' : ¬ k < (sets b).length := by simpa using hc
        simp -implicitDefEqProofs only [awp_exit, seqQ_e, lp_e, rnd_e, upd_app, ↓reduceIte, Nat.reduceEqDiff]
        rw [List.take_of_length_le (by omega)] at hin
        exact ⟨f4, trivial, hin⟩
    · rintro F H ⟨f4, rfl, h64⟩
      rw [h64] at hv
      simp only [Bool.false_eq_true, if_false] at hv
      simp -implicitDefEqProofs only [awp_seq, awp_block, awp_reg, seqQ_n, blk_e, WW_one, WW_nil, none_md, none_fz, frz_nil, ownOp, wc_app, wcont_s, ev_const, av_int, x_assign, ↓reduceIte, Option.getD_some, Bool.not_false, f4]
      refine awp_loop (fun n F H => ∃ k, n + k = (sets b).length ∧ F 4 = .sl (setsM b) 1 ((sets b).map encS) ∧ F 6 = .int .i64 (k : Nat) ∧ H = h ++ [.live 4 [encB b]] ∧ ((sets b).take k).any (fun l => l.l.any bad) = false) (sets b).length ⟨0, by simp, by simp -implicitDefEqProofs only [upd_app, ↓reduceIte, Nat.reduceEqDiff, f4], by simp -implicitDefEqProofs only [upd_app, ↓reduceIte]; rfl, rfl, rfl⟩ ?_
      rintro n F H ⟨k, hk, f4, f6, rfl, hin⟩
      simp -implicitDefEqProofs only [awp_seq, awp_reg, awp_cond, seqQ_n, WW_one, WW_nil, none_md, none_fz, frz_nil, ownOp, wc_app, wcont_s, upd_app, ev_tmp, x_move, x_bin, x_len, holdsO_ofO, bin_lss, ↓reduceIte, Nat.reduceEqDiff, Option.getD_some, Bool.not_false, enP, ln119, f4, f6, List.length_map]
      refine cond_of (fun hc => ?_) (fun hc => ?_)
      · have hc' : k < (sets b).length := by simpa using hc
        have t0 := any_take (fun l : Rs => l.l.any bad) (sets b) k hc'
        simp -implicitDefEqProofs only [awp_seq, awp_block, awp_reg, awp_skip, seqQ_n, WW_one, none_md, none_fz, frz_nil, ownOp, wc_app, wcont_s, upd_app, ev_tmp, ev_func, x_move, x_load, x_indexAddr, X1_call, callA_fn, holdsO_ofO, List.map_cons, List.map_nil, List.append_nil, ↓reduceIte, Nat.reduceEqDiff, Option.getD_some, Bool.not_false, enP, ix119, f4, f6, ix_map hc', load_map ag118 hc', encS0, List.length_map]
        refine (ranges_ref G _ _ _).use ?_
        have hk64 : ¬ (sets b)[k].l.length > 64 := by
          rw [List.any_eq_false] at h64
          have := h64 (sets b)[k] (by simp)
          simpa using this
        simp -implicitDefEqProofs only [awp_seq, awp_reg, awp_cond, seqQ_n, WW_one, WW_nil, none_md, none_fz, frz_nil, ownOp, wc_app, wcont_s, upd_app, ev_tmp, ev_const, av_int, x_move, x_assign, x_bin, holdsO_ofO, bin_neq, ↓reduceIte, Option.getD_some, Bool.not_false, enP]
        cases hbad : (sets b)[k].l.any bad with
        | true =>
          have hr := rangesE_bad hk64 hbad
          refine cond_of (fun hd => ?_) (fun hd => ?_)
          · simp -implicitDefEqProofs only [awp_seq, awp_reg, awp_ret, seqQ_n, seqQ_r, blk_r, rnd_r, end_r, WW_one, WW_nil, none_md, none_fz, frz_nil, ownOp, wc_app, wcont_s, upd_app, ev_tmp, x_move, x_assign, ↓reduceIte, Nat.reduceEqDiff, Option.getD_some, Bool.not_false]
            refine ⟨?_, _, rfl⟩
            have : (sets b).any (fun l => l.l.any bad) = true := by
              rw [List.any_eq_true]
              exact ⟨(sets b)[k], by simp, hbad⟩
            rw [hr, hv, if_pos this]
          · rw [hr] at hd; simp at hd
        | false =>
          have hr := rangesE_ok hk64 hbad
          refine cond_of (fun hd => ?_) (fun hd => ?_)
          · rw [hr] at hd; simp at hd
          · simp -implicitDefEqProofs only [awp_reg, awp_skip, seqQ_n, blk_n, rnd_n, WW_one, WW_nil, none_md, none_fz, frz_nil, ownOp, wc_app, wcont_s, upd_app, ev_tmp, ev_const, av_int, x_move, x_assign, x_bin, holdsO_ofO, bin_add, ↓reduceIte, Nat.reduceEqDiff, Option.getD_some, Bool.not_false, enP, f6, wrap_succ (show k < 9223372036854775807 by have := hb.num; omega)]
            refine ⟨n - 1, by omega, k + 1, by omega, f4, rfl, trivial, ?_⟩
            rw [t0, hin, hbad]; rfl
      · have hc' : ¬ k < (sets b).length := by simpa using hc
        simp -implicitDefEqProofs only [awp_seq, awp_reg, awp_ret, awp_exit, seqQ_n, seqQ_e, blk_e, rnd_e, end_r, WW_one, WW_nil, none_md, none_fz, frz_nil, ownOp, wc_app, wcont_s, upd_app, ev_const, av_int, x_assign, ↓reduceIte, Option.getD_some, Bool.not_false]
        rw [List.take_of_length_le (by omega)] at hin
        exact ⟨by rw [hv, if_neg (by rw [hin]; simp)], _, rfl⟩
    · rintro F H ⟨f2, rfl⟩
      simp -implicitDefEqProofs only [seqQ_r, blk_r, end_r]
      exact ⟨f2, _, rfl⟩
  · rintro F H ⟨f2, rfl⟩
    simp -implicitDefEqProofs only [seqQ_r, blk_r, end_r]
    exact ⟨by rw [f2], _, rfl⟩
end Go.Proofs.YtocilianjfhifaaGreatDoor.Bins
