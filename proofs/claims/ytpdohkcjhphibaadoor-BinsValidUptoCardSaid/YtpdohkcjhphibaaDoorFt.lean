/- The facts of the program's types, as the equations use them; no condition. -/
import Derived.Test.YtpdohkcjhphibaaDoorSw
import Derived.Test.YtpdohkcjhphibaaDoorProg
import Derived.KernelRfl
set_option linter.unusedVariables false
namespace Go.Proofs.YtpdohkcjhphibaaDoor.Sm
open Go
theorem sz2 : szO Tryd.prog 2 = some 1 := by kernel_rfl
theorem ag2 : aggO Tryd.prog 2 = some false := by kernel_rfl
theorem sz3 : szO Tryd.prog 3 = some 1 := by kernel_rfl
theorem ag3 : aggO Tryd.prog 3 = some false := by kernel_rfl
theorem sz4 : szO Tryd.prog 4 = some 1 := by kernel_rfl
theorem ag4 : aggO Tryd.prog 4 = some false := by kernel_rfl
theorem sz5 : szO Tryd.prog 5 = some 1 := by kernel_rfl
theorem ag5 : aggO Tryd.prog 5 = some false := by kernel_rfl
theorem sz9 : szO Tryd.prog 9 = some 1 := by kernel_rfl
theorem ag9 : aggO Tryd.prog 9 = some false := by kernel_rfl
theorem sz12 : szO Tryd.prog 12 = some 1 := by kernel_rfl
theorem ag12 : aggO Tryd.prog 12 = some false := by kernel_rfl
theorem sz20 : szO Tryd.prog 20 = some 1 := by kernel_rfl
theorem ag20 : aggO Tryd.prog 20 = some false := by kernel_rfl
theorem sz21 : szO Tryd.prog 21 = some 1 := by kernel_rfl
theorem ag21 : aggO Tryd.prog 21 = some false := by kernel_rfl
theorem sz22 : szO Tryd.prog 22 = some 1 := by kernel_rfl
theorem ag22 : aggO Tryd.prog 22 = some false := by kernel_rfl
theorem sz27 : szO Tryd.prog 27 = some 1 := by kernel_rfl
theorem ag27 : aggO Tryd.prog 27 = some false := by kernel_rfl
theorem sz28 : szO Tryd.prog 28 = some 4 := by kernel_rfl
theorem ag28 : aggO Tryd.prog 28 = some true := by kernel_rfl
theorem sz29 : szO Tryd.prog 29 = some 4 := by kernel_rfl
theorem ag29 : aggO Tryd.prog 29 = some true := by kernel_rfl
theorem sz30 : szO Tryd.prog 30 = some 1 := by kernel_rfl
theorem ag30 : aggO Tryd.prog 30 = some false := by kernel_rfl
theorem sz32 : szO Tryd.prog 32 = some 2 := by kernel_rfl
theorem ag32 : aggO Tryd.prog 32 = some true := by kernel_rfl
theorem sz33 : szO Tryd.prog 33 = some 2 := by kernel_rfl
theorem ag33 : aggO Tryd.prog 33 = some true := by kernel_rfl
theorem sz34 : szO Tryd.prog 34 = some 1 := by kernel_rfl
theorem ag34 : aggO Tryd.prog 34 = some false := by kernel_rfl
theorem sz38 : szO Tryd.prog 38 = some 1 := by kernel_rfl
theorem ag38 : aggO Tryd.prog 38 = some false := by kernel_rfl
theorem sz39 : szO Tryd.prog 39 = some 1 := by kernel_rfl
theorem ag39 : aggO Tryd.prog 39 = some false := by kernel_rfl
theorem sz60 : szO Tryd.prog 60 = some 1 := by kernel_rfl
theorem ag60 : aggO Tryd.prog 60 = some false := by kernel_rfl
theorem sz66 : szO Tryd.prog 66 = some 1 := by kernel_rfl
theorem ag66 : aggO Tryd.prog 66 = some false := by kernel_rfl
theorem sz74 : szO Tryd.prog 74 = some 1 := by kernel_rfl
theorem ag74 : aggO Tryd.prog 74 = some false := by kernel_rfl
theorem sz76 : szO Tryd.prog 76 = some 1 := by kernel_rfl
theorem ag76 : aggO Tryd.prog 76 = some false := by kernel_rfl
theorem sz79 : szO Tryd.prog 79 = some 1 := by kernel_rfl
theorem ag79 : aggO Tryd.prog 79 = some false := by kernel_rfl
theorem sz83 : szO Tryd.prog 83 = some 1 := by kernel_rfl
theorem ag83 : aggO Tryd.prog 83 = some false := by kernel_rfl
theorem sz87 : szO Tryd.prog 87 = some 1 := by kernel_rfl
theorem ag87 : aggO Tryd.prog 87 = some false := by kernel_rfl
theorem sz90 : szO Tryd.prog 90 = some 24 := by kernel_rfl
theorem ag90 : aggO Tryd.prog 90 = some true := by kernel_rfl
theorem sz92 : szO Tryd.prog 92 = some 1 := by kernel_rfl
theorem ag92 : aggO Tryd.prog 92 = some false := by kernel_rfl
theorem sz95 : szO Tryd.prog 95 = some 1 := by kernel_rfl
theorem ag95 : aggO Tryd.prog 95 = some false := by kernel_rfl
theorem sz99 : szO Tryd.prog 99 = some 20 := by kernel_rfl
theorem ag99 : aggO Tryd.prog 99 = some true := by kernel_rfl
theorem sz100 : szO Tryd.prog 100 = some 65 := by kernel_rfl
theorem ag100 : aggO Tryd.prog 100 = some true := by kernel_rfl
theorem sz101 : szO Tryd.prog 101 = some 32 := by kernel_rfl
theorem ag101 : aggO Tryd.prog 101 = some true := by kernel_rfl
theorem sz102 : szO Tryd.prog 102 = some 64 := by kernel_rfl
theorem ag102 : aggO Tryd.prog 102 = some true := by kernel_rfl
theorem sz113 : szO Tryd.prog 113 = some 1 := by kernel_rfl
theorem ag113 : aggO Tryd.prog 113 = some false := by kernel_rfl
theorem be4 : ∀ p q, aBin Tryd.prog 4 .eql (.bool p) (.bool q) = some (.bool (p == q)) := fun p q => bin_beql Tryd.prog 4 p q (by kernel_rfl)
theorem bn4 : ∀ p q, aBin Tryd.prog 4 .neq (.bool p) (.bool q) = some (.bool (!(p == q))) := fun p q => bin_bneq Tryd.prog 4 p q (by kernel_rfl)
theorem ln9 : ∀ s, aLen Tryd.prog 9 (.str s) = some (.int .i64 s.size) := len_str (by kernel_rfl : Tryd.prog.underlying 9 = some .string)
theorem ix22 : ∀ h a i, aIndexAddr Tryd.prog h 22 a i = ixSl 2 h a i := indexAddr_of (by kernel_rfl : Tryd.prog.underlying 22 = some (.slice 33)) sz33
theorem ln22 : (∀ m k xs, aLen Tryd.prog 22 (.sl m k xs) = some (.int .i64 xs.length)) ∧ ∀ b off len, aLen Tryd.prog 22 (.own b off len) = some (.int .i64 len) := len_of (by kernel_rfl : Tryd.prog.underlying 22 = some (.slice 33))
theorem ud22 : Tryd.prog.underlying 22 = some (.slice 33) := by kernel_rfl
theorem zs22 : zszO Tryd.prog 33 = some 2 := by kernel_rfl
theorem by22 : bytesO Tryd.prog 33 = some 16 := by kernel_rfl
theorem ix27 : ∀ h a i, aIndexAddr Tryd.prog h 27 a i = ixSl 1 h a i := indexAddr_of (by kernel_rfl : Tryd.prog.underlying 27 = some (.slice 22)) sz22
theorem ln27 : (∀ m k xs, aLen Tryd.prog 27 (.sl m k xs) = some (.int .i64 xs.length)) ∧ ∀ b off len, aLen Tryd.prog 27 (.own b off len) = some (.int .i64 len) := len_of (by kernel_rfl : Tryd.prog.underlying 27 = some (.slice 22))
theorem ud27 : Tryd.prog.underlying 27 = some (.slice 22) := by kernel_rfl
theorem zs27 : zszO Tryd.prog 22 = some 1 := by kernel_rfl
theorem by27 : bytesO Tryd.prog 22 = some 24 := by kernel_rfl
theorem fa28_0 : (∀ b i j, aFieldAddr Tryd.prog 28 (.ptr b i j) 0 = some (.ptr b i (j + 0))) ∧ (∀ k xs i j, aFieldAddr Tryd.prog 28 (.fptr k xs i j) 0 = some (.fptr k xs i (j + 0))) := fa_of (by kernel_rfl : faOk Tryd.prog 28 0 0 = true)
theorem fa28_1 : (∀ b i j, aFieldAddr Tryd.prog 28 (.ptr b i j) 1 = some (.ptr b i (j + 1))) ∧ (∀ k xs i j, aFieldAddr Tryd.prog 28 (.fptr k xs i j) 1 = some (.fptr k xs i (j + 1))) := fa_of (by kernel_rfl : faOk Tryd.prog 28 1 1 = true)
theorem fa28_2 : (∀ b i j, aFieldAddr Tryd.prog 28 (.ptr b i j) 2 = some (.ptr b i (j + 2))) ∧ (∀ k xs i j, aFieldAddr Tryd.prog 28 (.fptr k xs i j) 2 = some (.fptr k xs i (j + 2))) := fa_of (by kernel_rfl : faOk Tryd.prog 28 2 2 = true)
theorem fa28_3 : (∀ b i j, aFieldAddr Tryd.prog 28 (.ptr b i j) 3 = some (.ptr b i (j + 3))) ∧ (∀ k xs i j, aFieldAddr Tryd.prog 28 (.fptr k xs i j) 3 = some (.fptr k xs i (j + 3))) := fa_of (by kernel_rfl : faOk Tryd.prog 28 3 3 = true)
theorem fa29_0 : (∀ b i j, aFieldAddr Tryd.prog 29 (.ptr b i j) 0 = some (.ptr b i (j + 0))) ∧ (∀ k xs i j, aFieldAddr Tryd.prog 29 (.fptr k xs i j) 0 = some (.fptr k xs i (j + 0))) := fa_of (by kernel_rfl : faOk Tryd.prog 29 0 0 = true)
theorem fa29_1 : (∀ b i j, aFieldAddr Tryd.prog 29 (.ptr b i j) 1 = some (.ptr b i (j + 1))) ∧ (∀ k xs i j, aFieldAddr Tryd.prog 29 (.fptr k xs i j) 1 = some (.fptr k xs i (j + 1))) := fa_of (by kernel_rfl : faOk Tryd.prog 29 1 1 = true)
theorem fa29_2 : (∀ b i j, aFieldAddr Tryd.prog 29 (.ptr b i j) 2 = some (.ptr b i (j + 2))) ∧ (∀ k xs i j, aFieldAddr Tryd.prog 29 (.fptr k xs i j) 2 = some (.fptr k xs i (j + 2))) := fa_of (by kernel_rfl : faOk Tryd.prog 29 2 2 = true)
theorem fa29_3 : (∀ b i j, aFieldAddr Tryd.prog 29 (.ptr b i j) 3 = some (.ptr b i (j + 3))) ∧ (∀ k xs i j, aFieldAddr Tryd.prog 29 (.fptr k xs i j) 3 = some (.fptr k xs i (j + 3))) := fa_of (by kernel_rfl : faOk Tryd.prog 29 3 3 = true)
theorem ix30 : ∀ h a i, aIndexAddr Tryd.prog h 30 a i = ixSl 1 h a i := indexAddr_of (by kernel_rfl : Tryd.prog.underlying 30 = some (.slice 3)) sz3
theorem ln30 : (∀ m k xs, aLen Tryd.prog 30 (.sl m k xs) = some (.int .i64 xs.length)) ∧ ∀ b off len, aLen Tryd.prog 30 (.own b off len) = some (.int .i64 len) := len_of (by kernel_rfl : Tryd.prog.underlying 30 = some (.slice 3))
theorem ud30 : Tryd.prog.underlying 30 = some (.slice 3) := by kernel_rfl
theorem zs30 : zszO Tryd.prog 3 = some 1 := by kernel_rfl
theorem by30 : bytesO Tryd.prog 3 = some 8 := by kernel_rfl
theorem fa32_0 : (∀ b i j, aFieldAddr Tryd.prog 32 (.ptr b i j) 0 = some (.ptr b i (j + 0))) ∧ (∀ k xs i j, aFieldAddr Tryd.prog 32 (.fptr k xs i j) 0 = some (.fptr k xs i (j + 0))) := fa_of (by kernel_rfl : faOk Tryd.prog 32 0 0 = true)
theorem fa32_1 : (∀ b i j, aFieldAddr Tryd.prog 32 (.ptr b i j) 1 = some (.ptr b i (j + 1))) ∧ (∀ k xs i j, aFieldAddr Tryd.prog 32 (.fptr k xs i j) 1 = some (.fptr k xs i (j + 1))) := fa_of (by kernel_rfl : faOk Tryd.prog 32 1 1 = true)
theorem fa33_0 : (∀ b i j, aFieldAddr Tryd.prog 33 (.ptr b i j) 0 = some (.ptr b i (j + 0))) ∧ (∀ k xs i j, aFieldAddr Tryd.prog 33 (.fptr k xs i j) 0 = some (.fptr k xs i (j + 0))) := fa_of (by kernel_rfl : faOk Tryd.prog 33 0 0 = true)
theorem fa33_1 : (∀ b i j, aFieldAddr Tryd.prog 33 (.ptr b i j) 1 = some (.ptr b i (j + 1))) ∧ (∀ k xs i j, aFieldAddr Tryd.prog 33 (.fptr k xs i j) 1 = some (.fptr k xs i (j + 1))) := fa_of (by kernel_rfl : faOk Tryd.prog 33 1 1 = true)
theorem ix39 : ∀ h a i, aIndexAddr Tryd.prog h 39 a i = ixSl 4 h a i := indexAddr_of (by kernel_rfl : Tryd.prog.underlying 39 = some (.slice 29)) sz29
theorem ln39 : (∀ m k xs, aLen Tryd.prog 39 (.sl m k xs) = some (.int .i64 xs.length)) ∧ ∀ b off len, aLen Tryd.prog 39 (.own b off len) = some (.int .i64 len) := len_of (by kernel_rfl : Tryd.prog.underlying 39 = some (.slice 29))
theorem ud39 : Tryd.prog.underlying 39 = some (.slice 29) := by kernel_rfl
theorem zs39 : zszO Tryd.prog 29 = some 4 := by kernel_rfl
theorem by39 : bytesO Tryd.prog 29 = some 72 := by kernel_rfl
theorem ix79 : ∀ h a i, aIndexAddr Tryd.prog h 79 a i = ixSl 1 h a i := indexAddr_of (by kernel_rfl : Tryd.prog.underlying 79 = some (.slice 9)) sz9
theorem ln79 : (∀ m k xs, aLen Tryd.prog 79 (.sl m k xs) = some (.int .i64 xs.length)) ∧ ∀ b off len, aLen Tryd.prog 79 (.own b off len) = some (.int .i64 len) := len_of (by kernel_rfl : Tryd.prog.underlying 79 = some (.slice 9))
theorem ud79 : Tryd.prog.underlying 79 = some (.slice 9) := by kernel_rfl
theorem zs79 : zszO Tryd.prog 9 = some 1 := by kernel_rfl
theorem by79 : bytesO Tryd.prog 9 = some 16 := by kernel_rfl
theorem ix92 : ∀ h a i, aIndexAddr Tryd.prog h 92 a i = ixSl 1 h a i := indexAddr_of (by kernel_rfl : Tryd.prog.underlying 92 = some (.slice 5)) sz5
theorem ln92 : (∀ m k xs, aLen Tryd.prog 92 (.sl m k xs) = some (.int .i64 xs.length)) ∧ ∀ b off len, aLen Tryd.prog 92 (.own b off len) = some (.int .i64 len) := len_of (by kernel_rfl : Tryd.prog.underlying 92 = some (.slice 5))
theorem ud92 : Tryd.prog.underlying 92 = some (.slice 5) := by kernel_rfl
theorem zs92 : zszO Tryd.prog 5 = some 1 := by kernel_rfl
theorem by92 : bytesO Tryd.prog 5 = some 1 := by kernel_rfl
theorem cv2_76 : ∀ n, aConv Tryd.prog 2 76 (.int .i64 n) = some (.int .u64 (IntKind.u64.wrap n)) := fun n => conv_int (ds := .int .i64) Tryd.prog .i64 n (by kernel_rfl) (by kernel_rfl)
theorem cv3_5 : ∀ n, aConv Tryd.prog 3 5 (.int .i64 n) = some (.int .u8 (IntKind.u8.wrap n)) := fun n => conv_int (ds := .int .i64) Tryd.prog .i64 n (by kernel_rfl) (by kernel_rfl)
theorem cv3_60 : ∀ n, aConv Tryd.prog 3 60 (.int .i64 n) = some (.int .u64 (IntKind.u64.wrap n)) := fun n => conv_int (ds := .int .i64) Tryd.prog .i64 n (by kernel_rfl) (by kernel_rfl)
theorem cv3_76 : ∀ n, aConv Tryd.prog 3 76 (.int .i64 n) = some (.int .u64 (IntKind.u64.wrap n)) := fun n => conv_int (ds := .int .i64) Tryd.prog .i64 n (by kernel_rfl) (by kernel_rfl)
theorem cv3_83 : ∀ n, aConv Tryd.prog 3 83 (.int .i64 n) = some (.int .u64 (IntKind.u64.wrap n)) := fun n => conv_int (ds := .int .i64) Tryd.prog .i64 n (by kernel_rfl) (by kernel_rfl)
theorem cv5_3 : ∀ n, aConv Tryd.prog 5 3 (.int .u8 n) = some (.int .i64 (IntKind.i64.wrap n)) := fun n => conv_int (ds := .int .u8) Tryd.prog .u8 n (by kernel_rfl) (by kernel_rfl)
theorem cv38_3 : ∀ n, aConv Tryd.prog 38 3 (.int .u16 n) = some (.int .i64 (IntKind.i64.wrap n)) := fun n => conv_int (ds := .int .u16) Tryd.prog .u16 n (by kernel_rfl) (by kernel_rfl)
theorem cv60_3 : ∀ n, aConv Tryd.prog 60 3 (.int .u64 n) = some (.int .i64 (IntKind.i64.wrap n)) := fun n => conv_int (ds := .int .u64) Tryd.prog .u64 n (by kernel_rfl) (by kernel_rfl)
theorem cv60_74 : ∀ n, aConv Tryd.prog 60 74 (.int .u64 n) = some (.int .u32 (IntKind.u32.wrap n)) := fun n => conv_int (ds := .int .u64) Tryd.prog .u64 n (by kernel_rfl) (by kernel_rfl)
theorem cv74_5 : ∀ n, aConv Tryd.prog 74 5 (.int .u32 n) = some (.int .u8 (IntKind.u8.wrap n)) := fun n => conv_int (ds := .int .u32) Tryd.prog .u32 n (by kernel_rfl) (by kernel_rfl)
theorem cv76_5 : ∀ n, aConv Tryd.prog 76 5 (.int .u64 n) = some (.int .u8 (IntKind.u8.wrap n)) := fun n => conv_int (ds := .int .u64) Tryd.prog .u64 n (by kernel_rfl) (by kernel_rfl)
theorem cv76_74 : ∀ n, aConv Tryd.prog 76 74 (.int .u64 n) = some (.int .u32 (IntKind.u32.wrap n)) := fun n => conv_int (ds := .int .u64) Tryd.prog .u64 n (by kernel_rfl) (by kernel_rfl)
noncomputable def En (G : Nat → AV) : Env := ⟨Tryd.prog, G⟩
theorem enP (G : Nat → AV) : (En G).P = Tryd.prog := rfl
theorem enG (G : Nat → AV) : (En G).G = G := rfl
theorem enM (G : Nat → AV) : (En G).P.follows .mixedOrders = true := by kernel_rfl
end Go.Proofs.YtpdohkcjhphibaaDoor.Sm
