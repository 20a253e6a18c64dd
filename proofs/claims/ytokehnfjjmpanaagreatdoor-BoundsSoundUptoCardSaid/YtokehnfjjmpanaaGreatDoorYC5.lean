/- Part 5 of the proof (Ft, B1, B2, B4, B5, B6, E1, E2, E3, E4, E5, E6); no condition. -/
import Derived.Test.YtokehnfjjmpanaaGreatDoorProg
import Derived.KernelRfl
import Derived.Laws.RangeAny
import Derived.Shelf.Strings.Cut
import Derived.Lib.IndexMore
import Derived.Test.YtokehnfjjmpanaaGreatDoorYC4
set_option linter.unusedVariables false
namespace Go.Proofs.YtokehnfjjmpanaaGreatDoor.Sm

theorem sz3:szO Tryz.prog 3=some 1:=by kernel_rfl
theorem ag3:KR Tryz.prog 3=some false:=by kernel_rfl
theorem sz4:szO Tryz.prog 4=some 1:=by kernel_rfl
theorem ag4:KR Tryz.prog 4=some false:=by kernel_rfl
theorem sz9:szO Tryz.prog 9=some 1:=by kernel_rfl
theorem ag9:KR Tryz.prog 9=some false:=by kernel_rfl
theorem UW:KR Tryz.prog 22=some false:=by kernel_rfl
theorem A0X:szO Tryz.prog 23=some 1:=by kernel_rfl
theorem QU:KR Tryz.prog 23=some false:=by kernel_rfl
theorem ARQ:KR Tryz.prog 24=some false:=by kernel_rfl
theorem A0B:KR Tryz.prog 25=some false:=by kernel_rfl
theorem VL:szO Tryz.prog 27=some 5:=by kernel_rfl
theorem WX:KR Tryz.prog 27=some true:=by kernel_rfl
theorem TY:szO Tryz.prog 34=some 2:=by kernel_rfl
theorem AF2:KR Tryz.prog 34=some true:=by kernel_rfl
theorem AVO:szO Tryz.prog 35=some 1:=by kernel_rfl
theorem ARP:KR Tryz.prog 35=some false:=by kernel_rfl
theorem J4:szO Tryz.prog 40=some 4:=by kernel_rfl
theorem MK:KR Tryz.prog 40=some true:=by kernel_rfl
theorem A0W:szO Tryz.prog 45=some 1:=by kernel_rfl
theorem AXJ:KR Tryz.prog 45=some false:=by kernel_rfl
theorem AUF:KR Tryz.prog 50=some false:=by kernel_rfl
theorem AGO:szO Tryz.prog 52=some 2:=by kernel_rfl
theorem ARO:KR Tryz.prog 52=some true:=by kernel_rfl
theorem A0V:szO Tryz.prog 55=some 1:=by kernel_rfl
theorem AOR:szO Tryz.prog 61=some 4:=by kernel_rfl
theorem A0A:KR Tryz.prog 61=some true:=by kernel_rfl
theorem A0U:szO Tryz.prog 66=some 1:=by kernel_rfl
theorem A2E:KR Tryz.prog 66=some false:=by kernel_rfl
theorem A0T:szO Tryz.prog 69=some 2:=by kernel_rfl
theorem A2D:KR Tryz.prog 69=some true:=by kernel_rfl
theorem A0S:szO Tryz.prog 87=some 2:=by kernel_rfl
theorem AMH:szO Tryz.prog 89=some 4:=by kernel_rfl
theorem AUE:KR Tryz.prog 89=some true:=by kernel_rfl
theorem AOS:szO Tryz.prog 120=some 1:=by kernel_rfl
theorem AEH:KR Tryz.prog 120=some false:=by kernel_rfl
theorem ln9 : ∀ s,LC Tryz.prog 9 (.str s)=some (.int .i64 s.size):=AS7 (by kernel_rfl:Tryz.prog.underlying 9=some .string)
theorem TU : ∀ h a i,F9 Tryz.prog h 22 a i=JM 4 h a i:=IM (by kernel_rfl:Tryz.prog.underlying 22=some (.slice 61)) AOR
theorem QR:(∀ m k xs,LC Tryz.prog 22 (.sl m k xs)=some (.int .i64 xs.length))∧∀ b off len,LC Tryz.prog 22 (.own b off len)=some (.int .i64 len):=PM (by kernel_rfl:Tryz.prog.underlying 22=some (.slice 61))
theorem A0O:Tryz.prog.underlying 22=some (.slice 61):=by kernel_rfl
theorem P9 : ∀ h a i,F9 Tryz.prog h 23 a i=JM 4 h a i:=IM (by kernel_rfl:Tryz.prog.underlying 23=some (.slice 40)) J4
theorem TT:(∀ m k xs,LC Tryz.prog 23 (.sl m k xs)=some (.int .i64 xs.length))∧∀ b off len,LC Tryz.prog 23 (.own b off len)=some (.int .i64 len):=PM (by kernel_rfl:Tryz.prog.underlying 23=some (.slice 40))
theorem AMF:Tryz.prog.underlying 23=some (.slice 40):=by kernel_rfl
theorem AXP:YN Tryz.prog 40=some 4:=by kernel_rfl
theorem AZF:OT Tryz.prog 40=some 56:=by kernel_rfl
theorem ABW : ∀ h a i,F9 Tryz.prog h 24 a i=JM 2 h a i:=IM (by kernel_rfl:Tryz.prog.underlying 24=some (.slice 52)) AGO
theorem APM:(∀ m k xs,LC Tryz.prog 24 (.sl m k xs)=some (.int .i64 xs.length))∧∀ b off len,LC Tryz.prog 24 (.own b off len)=some (.int .i64 len):=PM (by kernel_rfl:Tryz.prog.underlying 24=some (.slice 52))
theorem A0N:Tryz.prog.underlying 24=some (.slice 52):=by kernel_rfl
theorem ATD : ∀ h a i,F9 Tryz.prog h 25 a i=JM 1 h a i:=IM (by kernel_rfl:Tryz.prog.underlying 25=some (.slice 45)) A0W
theorem AYU:(∀ m k xs,LC Tryz.prog 25 (.sl m k xs)=some (.int .i64 xs.length))∧∀ b off len,LC Tryz.prog 25 (.own b off len)=some (.int .i64 len):=PM (by kernel_rfl:Tryz.prog.underlying 25=some (.slice 45))
theorem KZ:(∀ b i j,DI Tryz.prog 27 (.ptr b i j) 0=some (.ptr b i (j+0)))∧(∀ k xs i j,DI Tryz.prog 27 (.fptr k xs i j) 0=some (.fptr k xs i (j+0))):=JJ (by kernel_rfl:KX Tryz.prog 27 0 0=true)
theorem AB6:(∀ b i j,DI Tryz.prog 27 (.ptr b i j) 1=some (.ptr b i (j+1)))∧(∀ k xs i j,DI Tryz.prog 27 (.fptr k xs i j) 1=some (.fptr k xs i (j+1))):=JJ (by kernel_rfl:KX Tryz.prog 27 1 1=true)
theorem AQG:(∀ b i j,DI Tryz.prog 27 (.ptr b i j) 2=some (.ptr b i (j+2)))∧(∀ k xs i j,DI Tryz.prog 27 (.fptr k xs i j) 2=some (.fptr k xs i (j+2))):=JJ (by kernel_rfl:KX Tryz.prog 27 2 2=true)
theorem AB5:(∀ b i j,DI Tryz.prog 27 (.ptr b i j) 3=some (.ptr b i (j+3)))∧(∀ k xs i j,DI Tryz.prog 27 (.fptr k xs i j) 3=some (.fptr k xs i (j+3))):=JJ (by kernel_rfl:KX Tryz.prog 27 3 3=true)
theorem AQF:(∀ b i j,DI Tryz.prog 27 (.ptr b i j) 4=some (.ptr b i (j+4)))∧(∀ k xs i j,DI Tryz.prog 27 (.fptr k xs i j) 4=some (.fptr k xs i (j+4))):=JJ (by kernel_rfl:KX Tryz.prog 27 4 4=true)
theorem QS : ∀ h a i,F9 Tryz.prog h 29 a i=JM 2 h a i:=IM (by kernel_rfl:Tryz.prog.underlying 29=some (.slice 34)) TY
theorem ADA:(∀ m k xs,LC Tryz.prog 29 (.sl m k xs)=some (.int .i64 xs.length))∧∀ b off len,LC Tryz.prog 29 (.own b off len)=some (.int .i64 len):=PM (by kernel_rfl:Tryz.prog.underlying 29=some (.slice 34))
theorem AOM:Tryz.prog.underlying 29=some (.slice 34):=by kernel_rfl
theorem AXO:YN Tryz.prog 34=some 2:=by kernel_rfl
theorem AW5:OT Tryz.prog 34=some 16:=by kernel_rfl
theorem GI:(∀ b i j,DI Tryz.prog 34 (.ptr b i j) 0=some (.ptr b i (j+0)))∧(∀ k xs i j,DI Tryz.prog 34 (.fptr k xs i j) 0=some (.fptr k xs i (j+0))):=JJ (by kernel_rfl:KX Tryz.prog 34 0 0=true)
theorem GR:(∀ b i j,DI Tryz.prog 34 (.ptr b i j) 1=some (.ptr b i (j+1)))∧(∀ k xs i j,DI Tryz.prog 34 (.fptr k xs i j) 1=some (.fptr k xs i (j+1))):=JJ (by kernel_rfl:KX Tryz.prog 34 1 1=true)
theorem GU:(∀ b i j,DI Tryz.prog 40 (.ptr b i j) 0=some (.ptr b i (j+0)))∧(∀ k xs i j,DI Tryz.prog 40 (.fptr k xs i j) 0=some (.fptr k xs i (j+0))):=JJ (by kernel_rfl:KX Tryz.prog 40 0 0=true)
theorem Y0:(∀ b i j,DI Tryz.prog 40 (.ptr b i j) 1=some (.ptr b i (j+1)))∧(∀ k xs i j,DI Tryz.prog 40 (.fptr k xs i j) 1=some (.fptr k xs i (j+1))):=JJ (by kernel_rfl:KX Tryz.prog 40 1 1=true)
theorem KO:(∀ b i j,DI Tryz.prog 40 (.ptr b i j) 2=some (.ptr b i (j+2)))∧(∀ k xs i j,DI Tryz.prog 40 (.fptr k xs i j) 2=some (.fptr k xs i (j+2))):=JJ (by kernel_rfl:KX Tryz.prog 40 2 2=true)
theorem JW:(∀ b i j,DI Tryz.prog 40 (.ptr b i j) 3=some (.ptr b i (j+3)))∧(∀ k xs i j,DI Tryz.prog 40 (.fptr k xs i j) 3=some (.fptr k xs i (j+3))):=JJ (by kernel_rfl:KX Tryz.prog 40 3 3=true)
theorem A1H : ∀ h a i,F9 Tryz.prog h 41 a i=JM 1 h a i:=IM (by kernel_rfl:Tryz.prog.underlying 41=some (.slice 55)) A0V
theorem A1G:(∀ m k xs,LC Tryz.prog 41 (.sl m k xs)=some (.int .i64 xs.length))∧∀ b off len,LC Tryz.prog 41 (.own b off len)=some (.int .i64 len):=PM (by kernel_rfl:Tryz.prog.underlying 41=some (.slice 55))
theorem NY:(∀ b i j,DI Tryz.prog 43 (.ptr b i j) 0=some (.ptr b i (j+0)))∧(∀ k xs i j,DI Tryz.prog 43 (.fptr k xs i j) 0=some (.fptr k xs i (j+0))):=JJ (by kernel_rfl:KX Tryz.prog 43 0 0=true)
theorem YZ:(∀ b i j,DI Tryz.prog 43 (.ptr b i j) 1=some (.ptr b i (j+5)))∧(∀ k xs i j,DI Tryz.prog 43 (.fptr k xs i j) 1=some (.fptr k xs i (j+5))):=JJ (by kernel_rfl:KX Tryz.prog 43 1 5=true)
theorem QH:(∀ b i j,DI Tryz.prog 43 (.ptr b i j) 2=some (.ptr b i (j+9)))∧(∀ k xs i j,DI Tryz.prog 43 (.fptr k xs i j) 2=some (.fptr k xs i (j+9))):=JJ (by kernel_rfl:KX Tryz.prog 43 2 9=true)
theorem AQE:(∀ b i j,DI Tryz.prog 43 (.ptr b i j) 3=some (.ptr b i (j+10)))∧(∀ k xs i j,DI Tryz.prog 43 (.fptr k xs i j) 3=some (.fptr k xs i (j+10))):=JJ (by kernel_rfl:KX Tryz.prog 43 3 10=true)
theorem RH : ∀ h a i,F9 Tryz.prog h 45 a i=JM 1 h a i:=IM (by kernel_rfl:Tryz.prog.underlying 45=some (.slice 3)) sz3
theorem ABR:(∀ m k xs,LC Tryz.prog 45 (.sl m k xs)=some (.int .i64 xs.length))∧∀ b off len,LC Tryz.prog 45 (.own b off len)=some (.int .i64 len):=PM (by kernel_rfl:Tryz.prog.underlying 45=some (.slice 3))
theorem AVM:Tryz.prog.underlying 45=some (.slice 3):=by kernel_rfl
theorem A0K:YN Tryz.prog 3=some 1:=by kernel_rfl
theorem AW4:OT Tryz.prog 3=some 8:=by kernel_rfl
theorem AYY : ∀ h a i,F9 Tryz.prog h 47 a i=JM 2 h a i:=IM (by kernel_rfl:Tryz.prog.underlying 47=some (.slice 87)) A0S
theorem A1F:(∀ m k xs,LC Tryz.prog 47 (.sl m k xs)=some (.int .i64 xs.length))∧∀ b off len,LC Tryz.prog 47 (.own b off len)=some (.int .i64 len):=PM (by kernel_rfl:Tryz.prog.underlying 47=some (.slice 87))
theorem A0M:Tryz.prog.underlying 47=some (.slice 87):=by kernel_rfl
theorem A0J:YN Tryz.prog 87=some 2:=by kernel_rfl
theorem A1Z:OT Tryz.prog 87=some 24:=by kernel_rfl
theorem ATC : ∀ h a i,F9 Tryz.prog h 50 a i=JM 4 h a i:=IM (by kernel_rfl:Tryz.prog.underlying 50=some (.slice 89)) AMH
theorem AM2:(∀ m k xs,LC Tryz.prog 50 (.sl m k xs)=some (.int .i64 xs.length))∧∀ b off len,LC Tryz.prog 50 (.own b off len)=some (.int .i64 len):=PM (by kernel_rfl:Tryz.prog.underlying 50=some (.slice 89))
theorem UO:(∀ b i j,DI Tryz.prog 52 (.ptr b i j) 0=some (.ptr b i (j+0)))∧(∀ k xs i j,DI Tryz.prog 52 (.fptr k xs i j) 0=some (.fptr k xs i (j+0))):=JJ (by kernel_rfl:KX Tryz.prog 52 0 0=true)
theorem WO:(∀ b i j,DI Tryz.prog 52 (.ptr b i j) 1=some (.ptr b i (j+1)))∧(∀ k xs i j,DI Tryz.prog 52 (.fptr k xs i j) 1=some (.fptr k xs i (j+1))):=JJ (by kernel_rfl:KX Tryz.prog 52 1 1=true)
theorem OO:(∀ b i j,DI Tryz.prog 61 (.ptr b i j) 0=some (.ptr b i (j+0)))∧(∀ k xs i j,DI Tryz.prog 61 (.fptr k xs i j) 0=some (.fptr k xs i (j+0))):=JJ (by kernel_rfl:KX Tryz.prog 61 0 0=true)
theorem NW:(∀ b i j,DI Tryz.prog 61 (.ptr b i j) 1=some (.ptr b i (j+1)))∧(∀ k xs i j,DI Tryz.prog 61 (.fptr k xs i j) 1=some (.fptr k xs i (j+1))):=JJ (by kernel_rfl:KX Tryz.prog 61 1 1=true)
theorem MZ:(∀ b i j,DI Tryz.prog 61 (.ptr b i j) 2=some (.ptr b i (j+2)))∧(∀ k xs i j,DI Tryz.prog 61 (.fptr k xs i j) 2=some (.fptr k xs i (j+2))):=JJ (by kernel_rfl:KX Tryz.prog 61 2 2=true)
theorem WM:(∀ b i j,DI Tryz.prog 61 (.ptr b i j) 3=some (.ptr b i (j+3)))∧(∀ k xs i j,DI Tryz.prog 61 (.fptr k xs i j) 3=some (.fptr k xs i (j+3))):=JJ (by kernel_rfl:KX Tryz.prog 61 3 3=true)
theorem AWK:(∀ b i j,DI Tryz.prog 69 (.ptr b i j) 0=some (.ptr b i (j+0)))∧(∀ k xs i j,DI Tryz.prog 69 (.fptr k xs i j) 0=some (.fptr k xs i (j+0))):=JJ (by kernel_rfl:KX Tryz.prog 69 0 0=true)
theorem YY:(∀ b i j,DI Tryz.prog 69 (.ptr b i j) 1=some (.ptr b i (j+1)))∧(∀ k xs i j,DI Tryz.prog 69 (.fptr k xs i j) 1=some (.fptr k xs i (j+1))):=JJ (by kernel_rfl:KX Tryz.prog 69 1 1=true)
theorem KY:(∀ b i j,DI Tryz.prog 73 (.ptr b i j) 0=some (.ptr b i (j+0)))∧(∀ k xs i j,DI Tryz.prog 73 (.fptr k xs i j) 0=some (.fptr k xs i (j+0))):=JJ (by kernel_rfl:KX Tryz.prog 73 0 0=true)
theorem AFG:(∀ b i j,DI Tryz.prog 73 (.ptr b i j) 1=some (.ptr b i (j+2)))∧(∀ k xs i j,DI Tryz.prog 73 (.fptr k xs i j) 1=some (.fptr k xs i (j+2))):=JJ (by kernel_rfl:KX Tryz.prog 73 1 2=true)
theorem AWJ:(∀ b i j,DI Tryz.prog 87 (.ptr b i j) 0=some (.ptr b i (j+0)))∧(∀ k xs i j,DI Tryz.prog 87 (.fptr k xs i j) 0=some (.fptr k xs i (j+0))):=JJ (by kernel_rfl:KX Tryz.prog 87 0 0=true)
theorem AWI:(∀ b i j,DI Tryz.prog 87 (.ptr b i j) 1=some (.ptr b i (j+1)))∧(∀ k xs i j,DI Tryz.prog 87 (.fptr k xs i j) 1=some (.fptr k xs i (j+1))):=JJ (by kernel_rfl:KX Tryz.prog 87 1 1=true)
theorem PO:(∀ b i j,DI Tryz.prog 89 (.ptr b i j) 0=some (.ptr b i (j+0)))∧(∀ k xs i j,DI Tryz.prog 89 (.fptr k xs i j) 0=some (.fptr k xs i (j+0))):=JJ (by kernel_rfl:KX Tryz.prog 89 0 0=true)
theorem RJ:(∀ b i j,DI Tryz.prog 89 (.ptr b i j) 1=some (.ptr b i (j+1)))∧(∀ k xs i j,DI Tryz.prog 89 (.fptr k xs i j) 1=some (.fptr k xs i (j+1))):=JJ (by kernel_rfl:KX Tryz.prog 89 1 1=true)
theorem YX:(∀ b i j,DI Tryz.prog 89 (.ptr b i j) 2=some (.ptr b i (j+2)))∧(∀ k xs i j,DI Tryz.prog 89 (.fptr k xs i j) 2=some (.fptr k xs i (j+2))):=JJ (by kernel_rfl:KX Tryz.prog 89 2 2=true)
theorem AHH : ∀ h a i,F9 Tryz.prog h 120 a i=JM 1 h a i:=IM (by kernel_rfl:Tryz.prog.underlying 120=some (.slice 9)) sz9
theorem ZQ:(∀ m k xs,LC Tryz.prog 120 (.sl m k xs)=some (.int .i64 xs.length))∧∀ b off len,LC Tryz.prog 120 (.own b off len)=some (.int .i64 len):=PM (by kernel_rfl:Tryz.prog.underlying 120=some (.slice 9))
theorem AON:Tryz.prog.underlying 120=some (.slice 9):=by kernel_rfl
theorem AN3:YN Tryz.prog 9=some 1:=by kernel_rfl
theorem AQ1:OT Tryz.prog 9=some 16:=by kernel_rfl
theorem ALN:(∀ b i j,DI Tryz.prog 122 (.ptr b i j) 0=some (.ptr b i (j+0)))∧(∀ k xs i j,DI Tryz.prog 122 (.fptr k xs i j) 0=some (.fptr k xs i (j+0))):=JJ (by kernel_rfl:KX Tryz.prog 122 0 0=true)
theorem AFI:(∀ b i j,DI Tryz.prog 122 (.ptr b i j) 1=some (.ptr b i (j+1)))∧(∀ k xs i j,DI Tryz.prog 122 (.fptr k xs i j) 1=some (.fptr k xs i (j+1))):=JJ (by kernel_rfl:KX Tryz.prog 122 1 1=true)
theorem X5:(∀ b i j,DI Tryz.prog 122 (.ptr b i j) 2=some (.ptr b i (j+2)))∧(∀ k xs i j,DI Tryz.prog 122 (.fptr k xs i j) 2=some (.fptr k xs i (j+2))):=JJ (by kernel_rfl:KX Tryz.prog 122 2 2=true)
theorem ALM:(∀ b i j,DI Tryz.prog 122 (.ptr b i j) 3=some (.ptr b i (j+3)))∧(∀ k xs i j,DI Tryz.prog 122 (.fptr k xs i j) 3=some (.fptr k xs i (j+3))):=JJ (by kernel_rfl:KX Tryz.prog 122 3 3=true)
theorem AFH:(∀ b i j,DI Tryz.prog 122 (.ptr b i j) 4=some (.ptr b i (j+4)))∧(∀ k xs i j,DI Tryz.prog 122 (.fptr k xs i j) 4=some (.fptr k xs i (j+4))):=JJ (by kernel_rfl:KX Tryz.prog 122 4 4=true)
theorem A0R:szO Tryz.prog 95=some 1:=by kernel_rfl
theorem A2C:KR Tryz.prog 95=some false:=by kernel_rfl
theorem AYZ : ∀ h a i,F9 Tryz.prog h 126 a i=JM 1 h a i:=IM (by kernel_rfl:Tryz.prog.underlying 126=some (.slice 95)) A0R
theorem AYV:(∀ m k xs,LC Tryz.prog 126 (.sl m k xs)=some (.int .i64 xs.length))∧∀ b off len,LC Tryz.prog 126 (.own b off len)=some (.int .i64 len):=PM (by kernel_rfl:Tryz.prog.underlying 126=some (.slice 95))
theorem APU : ∀ h a i,F9 Tryz.prog h 138 a i=JM 1 h a i:=IM (by kernel_rfl:Tryz.prog.underlying 138=some (.slice 4)) sz4
theorem AXX:Tryz.prog.underlying 138=some (.slice 4):=by kernel_rfl
theorem AZG:OT Tryz.prog 4=some 1:=by kernel_rfl
theorem AUZ : ∀ h a i,F9 Tryz.prog h 159 a i=JM 1 h a i:=IM (by kernel_rfl:Tryz.prog.underlying 159=some (.slice 23)) A0X
theorem AUY:(∀ m k xs,LC Tryz.prog 159 (.sl m k xs)=some (.int .i64 xs.length))∧∀ b off len,LC Tryz.prog 159 (.own b off len)=some (.int .i64 len):=PM (by kernel_rfl:Tryz.prog.underlying 159=some (.slice 23))
theorem AZC : ∀ n,SK Tryz.prog 3 5 (.int .i64 n)=some (.int .u8 (IntKind.u8.wrap n)):=fun n=>SC (ds := .int .i64) Tryz.prog .i64 n (by kernel_rfl) (by kernel_rfl)
theorem ALV : ∀ n,SK Tryz.prog 3 148 (.int .i64 n)=some (.int .u64 (IntKind.u64.wrap n)):=fun n=>SC (ds := .int .i64) Tryz.prog .i64 n (by kernel_rfl) (by kernel_rfl)
theorem ATT : ∀ n,SK Tryz.prog 3 170 (.int .i64 n)=some (.int .u16 (IntKind.u16.wrap n)):=fun n=>SC (ds := .int .i64) Tryz.prog .i64 n (by kernel_rfl) (by kernel_rfl)
theorem AH4 : ∀ n,SK Tryz.prog 5 3 (.int .u8 n)=some (.int .i64 (IntKind.i64.wrap n)):=fun n=>SC (ds := .int .u8) Tryz.prog .u8 n (by kernel_rfl) (by kernel_rfl)
theorem AWU : ∀ n,SK Tryz.prog 55 3 (.int .u16 n)=some (.int .i64 (IntKind.i64.wrap n)):=fun n=>SC (ds := .int .u16) Tryz.prog .u16 n (by kernel_rfl) (by kernel_rfl)
theorem ALW : ∀ n,SK Tryz.prog 175 5 (.int .u64 n)=some (.int .u8 (IntKind.u8.wrap n)):=fun n=>SC (ds := .int .u64) Tryz.prog .u64 n (by kernel_rfl) (by kernel_rfl)
noncomputable def En (G:Nat→AV):Env:=⟨Tryz.prog,G,none,fun _ _=>False⟩
theorem enP (G:Nat→AV):(En G).P=Tryz.prog:=rfl
theorem enX (G:Nat→AV):(En G).nox=En G:=rfl
theorem enG (G:Nat→AV):(En G).G=G:=rfl
theorem enM (G:Nat→AV):(En G).P.follows .mixedOrders=true:=by kernel_rfl
theorem acN {G:Nat→AV} {f:FuncId} {fn:Func} {c:Code} {args:List AV} {h:Hp} {R:AV→Hp→Prop} (hf:(En G).P.funcs[f]? = some fn) (hb:fn.body=some c) (hw:awp (En G) Hint.none c (LH args) h (EE (En G).P fn.results.toList R)) (h1:(fn.name == "runtime.NumGoroutine")=false:=by kernel_rfl) (h2:QJ fn.ntmps c=true:=by kernel_rfl) (h3:Nat.ble args.length fn.ntmps=true:=by kernel_rfl):ACalls (En G) f args h R:=JB (enM G) hf hb h1 h2 (Nat.le_of_ble_eq_true h3) hw
end Go.Proofs.YtokehnfjjmpanaaGreatDoor.Sm
namespace Go.Proofs.YtokehnfjjmpanaaGreatDoor.Bins
open Sm
structure Rng where
 lo:Int
 hi:Int
 deriving DecidableEq
def encR (r:Rng):List AV := [.int .i64 r.lo,.int .i64 r.hi]
theorem O8 (r:Rng):(encR r).length=2:=rfl
theorem ACV {α:Type} (p:α→Bool) (xs:List α) (k:Nat) (h:k < xs.length):(xs.drop k).any p=(p xs[k] || (xs.drop (k+1)).any p):=by
 rw [List.drop_eq_getElem_cons h,List.any_cons]
theorem bxR (h:Hp) (r:Rng):PG h (.agg (encR r))=some (.ptr h.length 0 0,h ++ [.live 2 [encR r]]):=rfl
def bad (r:Rng):Bool:=decide (r.lo < 0) || decide (r.lo > r.hi) || decide (r.hi > 65535)
theorem A2B (h:Hp):JU Tryz.prog h 34=some (.ptr h.length 0 0,h ++ [.live 2 [[.int .i64 0,.int .i64 0]]]):=J7 (row := [.int .i64 0,.int .i64 0]) (by kernel_rfl)
theorem cok (f:FuncId) (G:Nat→AV) (hf:(match Tryz.prog.funcs[f]? with | some fn=>fn.body.isSome && !(fn.name == "runtime.NumGoroutine") | none=>false)=true):ZK (En G).P f:=by
 have he:(En G).P=Tryz.prog:=rfl
 unfold ZK
 rw [he]
 cases hx:Tryz.prog.funcs[f]? with
 | none=>rw [hx] at hf; cases hf
 | some fn =>
   rw [hx] at hf
   simp at hf
   exact ⟨fn,rfl,by simpa using hf.1,by simpa using hf.2⟩
def qencI (n:Int):List AV := [.int .i64 n]
theorem encI0 (n:Int):(qencI n)[0]? = some (.int .i64 n):=rfl
end Go.Proofs.YtokehnfjjmpanaaGreatDoor.Bins
set_option linter.unusedSimpArgs false
set_option maxRecDepth 8000
namespace Go.Proofs.YtokehnfjjmpanaaGreatDoor.Bins
open Sm
open Bool renaming not_false→jC
open List renaming map_cons→jF,map_nil→jD,append_nil→jE,length_map→jM,all_eq_true→zA,getElem?_cons_zero→jZ
open Nat renaming le_of_ble_eq_true→jH,reduceEqDiff→jB,lt_or_ge→jT,eq_zero_or_pos→qA
open Option renaming getD_some→jA
def QQ (n:Int):Bool:=decide (n≥97) && decide (n≤122)
def AH3 (n:Int):Bool:=decide (n≥48) && decide (n≤57)
def MM (n:Int):Bool:=QQ n || AH3 n || (decide (n≥65) && decide (n≤90)) || n == 95
theorem ABP (G:Nat→AV) (n:Int) (h:Hp):PCall (En G) 201 [.int .i32 n] h (.bool (QQ n)):=by
 refine acN Tryz.func201 rfl ?_
 show awp _ _ _ _ _ (EE _ [.tmp 2] _)
 simp -implicitDefEqProofs only [BC,A8,A7,AZ,BA,BL,BX,CG,AC,AQ,AO,BD,AX,AL,AA,AY,AU,BG,BM,BH,BB,BU,AB,FQ,BF,↓reduceIte,jB,jA,jC,enX,enP]
 refine IV (fun ha => ?_) (fun ha => ?_)
 ·simp -implicitDefEqProofs only [BK,A7,CU,AZ,BA,BL,BX,CG,F8,AC,AQ,AO,BD,AX,AL,AA,AY,AU,BG,BM,BH,BB,CO,DK,BU,AB,I7,BF,↓reduceIte,jB,jA,jC,enP,ha]
  exact ⟨by unfold QQ; rw [ha]; rfl,trivial⟩
 ·simp -implicitDefEqProofs only [BK,A7,CU,AZ,BA,BL,BX,CG,JA,AC,AQ,AO,BD,AX,AL,AA,EG,AY,AU,BM,BB,CO,DU,↓reduceIte,jB,jA,jC,ha]
  exact ⟨by unfold QQ; rw [ha]; rfl,trivial⟩
theorem AJ6 (G:Nat→AV) (n:Int) (h:Hp):PCall (En G) 213 [.int .i32 n] h (.bool (AH3 n)):=by
 refine acN Tryz.func213 rfl ?_
 show awp _ _ _ _ _ (EE _ [.tmp 2] _)
 simp -implicitDefEqProofs only [BC,A8,A7,AZ,BA,BL,BX,CG,AC,AQ,AO,BD,AX,AL,AA,AY,AU,BG,BM,BH,BB,BU,AB,FQ,BF,↓reduceIte,jB,jA,jC,enX,enP]
 refine IV (fun ha => ?_) (fun ha => ?_)
 ·simp -implicitDefEqProofs only [BK,A7,CU,AZ,BA,BL,BX,CG,F8,AC,AQ,AO,BD,AX,AL,AA,AY,AU,BG,BM,BH,BB,CO,DK,BU,AB,I7,BF,↓reduceIte,jB,jA,jC,enP,ha]
  exact ⟨by unfold AH3; rw [ha]; rfl,trivial⟩
 ·simp -implicitDefEqProofs only [BK,A7,CU,AZ,BA,BL,BX,CG,JA,AC,AQ,AO,BD,AX,AL,AA,EG,AY,AU,BM,BB,CO,DU,↓reduceIte,jB,jA,jC,ha]
  exact ⟨by unfold AH3; rw [ha]; rfl,trivial⟩
theorem ADO (G:Nat→AV) (n:Int) (h:Hp):PCall (En G) 197 [.int .u8 n] h (.bool (QQ n)):=by
 refine acN Tryz.func197 rfl ?_
 show awp _ _ _ _ _ (EE _ [.tmp 2] _)
 simp -implicitDefEqProofs only [BC,A8,A7,AZ,BA,BL,BX,CG,AC,AQ,AO,BD,AX,AL,AA,AY,AU,BG,BM,BH,BB,BU,AB,FQ,BF,↓reduceIte,jB,jA,jC,enX,enP]
 refine IV (fun ha => ?_) (fun ha => ?_)
 ·simp -implicitDefEqProofs only [BK,A7,CU,AZ,BA,BL,BX,CG,F8,AC,AQ,AO,BD,AX,AL,AA,AY,AU,BG,BM,BH,BB,CO,DK,BU,AB,I7,BF,↓reduceIte,jB,jA,jC,enP,ha]
  exact ⟨by unfold QQ; rw [ha]; rfl,trivial⟩
 ·simp -implicitDefEqProofs only [BK,A7,CU,AZ,BA,BL,BX,CG,JA,AC,AQ,AO,BD,AX,AL,AA,EG,AY,AU,BM,BB,CO,DU,↓reduceIte,jB,jA,jC,ha]
  exact ⟨by unfold QQ; rw [ha]; rfl,trivial⟩
theorem digit_ref (G:Nat→AV) (n:Int) (h:Hp):PCall (En G) 212 [.int .u8 n] h (.bool (AH3 n)):=by
 refine acN Tryz.func212 rfl ?_
 show awp _ _ _ _ _ (EE _ [.tmp 2] _)
 simp -implicitDefEqProofs only [BC,A8,A7,AZ,BA,BL,BX,CG,AC,AQ,AO,BD,AX,AL,AA,AY,AU,BG,BM,BH,BB,BU,AB,FQ,BF,↓reduceIte,jB,jA,jC,enX,enP]
 refine IV (fun ha => ?_) (fun ha => ?_)
 ·simp -implicitDefEqProofs only [BK,A7,CU,AZ,BA,BL,BX,CG,F8,AC,AQ,AO,BD,AX,AL,AA,AY,AU,BG,BM,BH,BB,CO,DK,BU,AB,I7,BF,↓reduceIte,jB,jA,jC,enP,ha]
  exact ⟨by unfold AH3; rw [ha]; rfl,trivial⟩
 ·simp -implicitDefEqProofs only [BK,A7,CU,AZ,BA,BL,BX,CG,JA,AC,AQ,AO,BD,AX,AL,AA,EG,AY,AU,BM,BB,CO,DU,↓reduceIte,jB,jA,jC,ha]
  exact ⟨by unfold AH3; rw [ha]; rfl,trivial⟩
theorem XZ (G:Nat→AV) (n:Int) (h:Hp):PCall (En G) 202 [.int .i32 n] h (.bool (MM n)):=by
 refine acN Tryz.func202 rfl ?_
 show awp _ _ _ _ _ (EE _ [.tmp 2] _)
 simp -implicitDefEqProofs only [BC,A8,A7,AZ,BA,AC,AQ,AO,BD,AX,AL,AA,AY,AU,BO,BM,BH,BB,BV,BN,BF,jF,jD,jE,↓reduceIte,jB,jA,jC,enX,enP]
 refine (ABP G n h).use ?_
 simp -implicitDefEqProofs only [AZ,BL,BX,CG,AC,AQ,AO,BD,AX,AL,AA,AY,BH,↓reduceIte,jA,jC]
 refine IV (fun ha => ?_) (fun ha => ?_)
 ·simp -implicitDefEqProofs only [BK,A7,CU,AZ,BA,BL,BX,CG,FY,VW,AC,AQ,AO,BD,AX,AL,AA,EG,AY,AU,BM,BH,BB,CO,DK,↓reduceIte,jB,jA,jC,ha]
  exact ⟨by unfold MM; rw [ha]; rfl,trivial⟩
 simp -implicitDefEqProofs only [BL,BX,CG,EM,AC,AQ,AO,BD,AX,AL,AA,AY,BO,BH,BV,BN,BF,jF,jD,jE,↓reduceIte,jB,jA,jC,ha]
 refine (AJ6 G n h).use ?_
 simp -implicitDefEqProofs only [AZ,BL,BX,CG,AC,AQ,AO,BD,AX,AL,AA,AY,AU,BM,BH,CO,DU,↓reduceIte,jB,jA,jC]
 refine IV (fun hb => ?_) (fun hb => ?_)
 ·simp -implicitDefEqProofs only [BK,A7,CU,AZ,BA,BL,BX,CG,FY,VW,AC,AQ,AO,BD,AX,AL,AA,EG,AY,AU,BM,BH,BB,CO,DK,↓reduceIte,jB,jA,jC,hb]
  exact ⟨by unfold MM; rw [ha,hb]; rfl,trivial⟩
 simp -implicitDefEqProofs only [BL,BX,CG,EM,AC,AQ,AO,BD,AX,AL,AA,AY,AU,BG,BH,BU,AB,FQ,BF,↓reduceIte,jB,jA,jC,enP,hb]
 refine IV (fun hc => ?_) (fun hc => ?_)
 ·simp -implicitDefEqProofs only [AZ,BL,BX,CG,F8,EM,AC,AQ,AO,BD,AX,AL,AA,AY,AU,BG,BM,BH,CO,DK,DU,BU,AB,I7,BF,↓reduceIte,jB,jA,jC,enP,hc]
  refine IV (fun hd => ?_) (fun hd => ?_)
  ·simp -implicitDefEqProofs only [BK,A7,CU,AZ,BA,BL,BX,CG,FY,AC,AQ,AO,BD,AX,AL,AA,EG,AY,AU,BM,BB,CO,DK,↓reduceIte,jB,jA,jC,hd]
   exact ⟨by unfold MM; rw [ha,hb,hc,hd]; rfl,trivial⟩
  ·simp -implicitDefEqProofs only [BK,A7,CU,AZ,BA,BL,BX,CG,EM,AC,AQ,AO,BD,AX,AL,AA,AY,AU,BG,BM,BH,BB,CO,DU,BU,AB,DJ,BF,↓reduceIte,jB,jA,jC,enP,hd]
   exact ⟨by unfold MM; rw [ha,hb,hc,hd]; rfl,trivial⟩
 ·simp -implicitDefEqProofs only [BK,A7,CU,AZ,BA,BL,BX,CG,EM,JA,AC,AQ,AO,BD,AX,AL,AA,EG,AY,AU,BG,BM,BH,BB,CO,DU,BU,AB,DJ,BF,↓reduceIte,jB,jA,jC,enP,hc]
  exact ⟨by unfold MM; rw [ha,hb,hc]; rfl,trivial⟩
theorem AM7 (G:Nat→AV) (n:Int) (h:Hp):PCall (En G) 199 [.int .u8 n] h (.bool (MM n)):=by
 refine acN Tryz.func199 rfl ?_
 show awp _ _ _ _ _ (EE _ [.tmp 2] _)
 simp -implicitDefEqProofs only [BC,A8,A7,AZ,BA,AC,AQ,AO,BD,AX,AL,AA,AY,AU,BO,BM,BH,BB,BV,BN,BF,jF,jD,jE,↓reduceIte,jB,jA,jC,enX,enP]
 refine (ADO G n h).use ?_
 simp -implicitDefEqProofs only [AZ,BL,BX,CG,AC,AQ,AO,BD,AX,AL,AA,AY,BH,↓reduceIte,jA,jC]
 refine IV (fun ha => ?_) (fun ha => ?_)
 ·simp -implicitDefEqProofs only [BK,A7,CU,AZ,BA,BL,BX,CG,FY,VW,AC,AQ,AO,BD,AX,AL,AA,EG,AY,AU,BM,BH,BB,CO,DK,↓reduceIte,jB,jA,jC,ha]
  exact ⟨by unfold MM; rw [ha]; rfl,trivial⟩
 simp -implicitDefEqProofs only [BL,BX,CG,EM,AC,AQ,AO,BD,AX,AL,AA,AY,BO,BH,BV,BN,BF,jF,jD,jE,↓reduceIte,jB,jA,jC,ha]
 refine (digit_ref G n h).use ?_
 simp -implicitDefEqProofs only [AZ,BL,BX,CG,AC,AQ,AO,BD,AX,AL,AA,AY,AU,BM,BH,CO,DU,↓reduceIte,jB,jA,jC]
 refine IV (fun hb => ?_) (fun hb => ?_)
 ·simp -implicitDefEqProofs only [BK,A7,CU,AZ,BA,BL,BX,CG,FY,VW,AC,AQ,AO,BD,AX,AL,AA,EG,AY,AU,BM,BH,BB,CO,DK,↓reduceIte,jB,jA,jC,hb]
  exact ⟨by unfold MM; rw [ha,hb]; rfl,trivial⟩
 simp -implicitDefEqProofs only [BL,BX,CG,EM,AC,AQ,AO,BD,AX,AL,AA,AY,AU,BG,BH,BU,AB,FQ,BF,↓reduceIte,jB,jA,jC,enP,hb]
 refine IV (fun hc => ?_) (fun hc => ?_)
 ·simp -implicitDefEqProofs only [AZ,BL,BX,CG,F8,EM,AC,AQ,AO,BD,AX,AL,AA,AY,AU,BG,BM,BH,CO,DK,DU,BU,AB,I7,BF,↓reduceIte,jB,jA,jC,enP,hc]
  refine IV (fun hd => ?_) (fun hd => ?_)
  ·simp -implicitDefEqProofs only [BK,A7,CU,AZ,BA,BL,BX,CG,FY,AC,AQ,AO,BD,AX,AL,AA,EG,AY,AU,BM,BB,CO,DK,↓reduceIte,jB,jA,jC,hd]
   exact ⟨by unfold MM; rw [ha,hb,hc,hd]; rfl,trivial⟩
  ·simp -implicitDefEqProofs only [BK,A7,CU,AZ,BA,BL,BX,CG,EM,AC,AQ,AO,BD,AX,AL,AA,AY,AU,BG,BM,BH,BB,CO,DU,BU,AB,DJ,BF,↓reduceIte,jB,jA,jC,enP,hd]
   exact ⟨by unfold MM; rw [ha,hb,hc,hd]; rfl,trivial⟩
 ·simp -implicitDefEqProofs only [BK,A7,CU,AZ,BA,BL,BX,CG,EM,JA,AC,AQ,AO,BD,AX,AL,AA,EG,AY,AU,BG,BM,BH,BB,CO,DU,BU,AB,DJ,BF,↓reduceIte,jB,jA,jC,enP,hc]
  exact ⟨by unfold MM; rw [ha,hb,hc]; rfl,trivial⟩
def encStr (s:ByteArray):List AV := [.str s]
theorem ALS (s:ByteArray):(encStr s)[0]? = some (.str s):=rfl
def LY (xs:List ByteArray) (v:ByteArray):Bool:=xs.any fun u=>v.toList == u.toList
theorem ATI (G:Nat→AV) (xs:List ByteArray) (m:SM) (v:ByteArray) (h:Hp) (hl:xs.length≤1099511627776) :
  PCall (En G) 210 [.sl m 1 (xs.map encStr),.str v] h (.bool (LY xs v)):=by
 refine acN Tryz.func210 rfl ?_
 show awp _ _ _ _ _ (EE _ [.tmp 4] _)
 simp -implicitDefEqProofs only [BC,CB,A8,A7,AZ,BA,AC,AQ,AO,BD,AX,AL,AU,BG,BM,BB,jA,jC,enX,enP]
 refine D7 (fun n F H => ∃ k,n+k=xs.length∧F 0 = .sl m 1 (xs.map encStr)∧F 1 = .str v∧F 5 = .int .i64 (k:Nat)∧H=h∧LY xs v=LY (xs.drop k) v) xs.length ⟨0,by simp,rfl,rfl,rfl,rfl,rfl⟩ ?_
 rintro n F H ⟨k,hk,f0,f1,f5,rfl,hin⟩
 simp -implicitDefEqProofs only [BC,A8,BJ,A7,AZ,BA,AC,AQ,AO,BD,AX,AL,AA,AY,BH,BU,E5,AB,DF,↓reduceIte,jB,jA,jC,enP,ZQ,f0,f1,f5,jM]
 refine CV (fun hc => ?_) (fun hc => ?_)
 ·have hc':k < xs.length:=by simpa using hc
  have hs:LY (xs.drop k) v=((v.toList == xs[k].toList) || LY (xs.drop (k+1)) v):=ACV _ xs k hc'
  simp -implicitDefEqProofs only [BC,CB,A8,BR,BJ,A7,AZ,BA,AC,AQ,AO,BD,AX,AL,AA,AY,BH,BP,BU,CQ,AB,KQ,↓reduceIte,jB,jA,jC,enP,AHH,f0,f1,f5,EF hc',GG ag9 hc',ALS]
  refine CV (fun hb => ?_) (fun hb => ?_)
  ·simp -implicitDefEqProofs only [BC,A8,BK,A7,CJ,D5,FV,CU,AZ,BA,AC,AQ,AO,BD,AX,AL,AA,AU,BM,BB,↓reduceIte,jA,jC]
   refine ⟨?_,trivial⟩
   rw [hin,hs,show (v.toList == xs[k].toList)=true by rw [BEq.comm]; exact hb]; rfl
  ·simp -implicitDefEqProofs only [A8,BR,A7,EK,FI,AZ,BA,AC,AQ,AO,BD,AX,AL,AA,AY,AU,BG,BH,BB,BU,AB,DY,↓reduceIte,jB,jA,jC,enP,f5,wrap_succ (show k < 9223372036854775807 by omega)]
   refine ⟨n - 1,by omega,k+1,by omega,f0,f1,rfl,trivial,?_⟩
   rw [hin,hs,show (v.toList == xs[k].toList)=false by rw [BEq.comm]; exact hb]; rfl
 ·have hc' : ¬ k < xs.length:=by simpa using hc
  simp -implicitDefEqProofs only [BC,A8,BK,D6,A7,EU,FT,FX,CU,AZ,BA,AC,AQ,AO,BD,AX,AL,AA,AU,BM,BB,↓reduceIte,jA,jC]
  exact ⟨by rw [hin,List.drop_eq_nil_of_le (by omega)]; rfl,trivial⟩
theorem index_prog (G:Nat→AV) (xs:List ByteArray) (m:SM) (v:ByteArray) (h:Hp) (hl:xs.length≤1099511627776) :
  ∃ i:Int,(decide (i≥0)=LY xs v)∧PCall (En G) 209 [.sl m 1 (xs.map encStr),.str v] h (.int .i64 i):=by
 refine ⟨(match xs.findIdx? (fun u=>v.toList == u.toList) with | some i=>(i:Int) | none => -1),?_,?_⟩
 ·cases hx:xs.findIdx? (fun u=>v.toList == u.toList) with
  | some i =>
    obtain ⟨h1,h2,_⟩:=List.findIdx?_eq_some_iff_getElem.1 hx
    have:LY xs v=true:=List.any_eq_true.2 ⟨xs[i],by simp,h2⟩
    simp [this]
  | none =>
    have:LY xs v=false:=by
     rw [List.findIdx?_eq_none_iff] at hx
     unfold LY
     rw [List.any_eq_false]; intro x hx2; simp only [hx x hx2]; simp
    simp [this]
 refine acN Tryz.func209 rfl ?_
 show awp _ _ _ _ _ (EE _ [.tmp 4] _)
 simp -implicitDefEqProofs only [BC,CB,A8,A7,AZ,BA,AC,AQ,AO,BD,AX,AL,AA,AY,AU,BG,BH,BB,E5,AB,BF,↓reduceIte,jB,jA,jC,enX,enP,ZQ,jM]
 refine D7 (fun n F H => ∃ k,n+k=xs.length∧F 0 = .sl m 1 (xs.map encStr)∧F 1 = .str v∧F 7 = .int .i64 xs.length∧F 8 = .int .i64 (k:Nat)∧H=h∧(xs.take k).all (fun u => !(v.toList == u.toList))=true) xs.length ⟨0,by simp,rfl,rfl,rfl,rfl,rfl,rfl⟩ ?_
 rintro n F H ⟨k,hk,f0,f1,f7,f8,rfl,hin⟩
 simp -implicitDefEqProofs only [BC,A8,BJ,A7,AZ,BA,AC,AQ,AO,BD,AX,AL,AA,AY,BU,AB,DF,↓reduceIte,jA,jC,enP,f0,f1,f7,f8,jM]
 refine CV (fun hc => ?_) (fun hc => ?_)
 ·have hc':k < xs.length:=by simpa using hc
  simp -implicitDefEqProofs only [BC,CB,A8,BR,BJ,A7,AZ,BA,AC,AQ,AO,BD,AX,AL,AA,AY,BH,BB,BP,BU,CQ,AB,KQ,↓reduceIte,jB,jA,jC,enP,AHH,f0,f1,f7,f8,EF hc',GG ag9 hc',ALS]
  refine CV (fun hb => ?_) (fun hb => ?_)
  ·simp -implicitDefEqProofs only [BC,A8,BK,A7,CJ,D5,FV,CU,AZ,BA,AC,AQ,AO,BD,AX,AL,AA,AY,BH,BB,↓reduceIte,jB,jA,jC]
   refine ⟨?_,trivial⟩
   rw [List.findIdx?_eq_some_iff_getElem.2 ⟨hc',hb,fun j hj=>by
    rw [zA] at hin
    have:=hin xs[j] (by rw [List.mem_take_iff_getElem]; exact ⟨j,by omega,rfl⟩)
    simpa using this⟩]
  ·simp -implicitDefEqProofs only [A8,BR,A7,EK,FI,AZ,BA,AC,AQ,AO,BD,AX,AL,AA,AY,AU,BG,BH,BU,AB,DY,↓reduceIte,jB,jA,jC,enP,f8,wrap_succ (show k < 9223372036854775807 by omega)]
   refine ⟨n - 1,by omega,k+1,by omega,f0,f1,f7,rfl,trivial,?_⟩
   rw [List.take_succ_eq_append_getElem hc',List.all_append,hin]
   simp only [List.all_cons,List.all_nil,hb]; rfl
 ·have hc' : ¬ k < xs.length:=by simpa using hc
  simp -implicitDefEqProofs only [BC,A8,BK,D6,A7,EU,FT,FX,CU,AZ,BA,AC,AQ,AO,BD,AX,AL,AA,AU,BG,BB,↓reduceIte,jA,jC]
  refine ⟨?_,trivial⟩
  rw [List.take_of_length_le (by omega)] at hin
  rw [List.findIdx?_eq_none_iff.2 (by
   intro x hx
   rw [zA] at hin
   simpa using hin x hx)]
theorem ADF (G:Nat→AV) (xs:List ByteArray) (m:SM) (v:ByteArray) (h:Hp) (hl:xs.length≤1099511627776) :
  PCall (En G) 195 [.sl m 1 (xs.map encStr),.str v] h (.bool (LY xs v)):=by
 obtain ⟨i,hi,hp⟩:=index_prog G xs m v h hl
 refine acN Tryz.func195 rfl ?_
 show awp _ _ _ _ _ (EE _ [.tmp 4] _)
 simp -implicitDefEqProofs only [BC,A8,A7,AZ,BA,AC,AQ,AO,BD,AX,AL,AA,AY,AU,BO,BM,BH,BB,BV,BN,BF,BQ,jF,jD,jE,↓reduceIte,jB,jA,jC,enX,enP]
 refine hp.use ?_
 simp -implicitDefEqProofs only [BK,A7,CU,AZ,BA,AC,AQ,AO,BD,AX,AL,AA,AY,AU,BG,BB,BU,AB,FQ,↓reduceIte,jA,jC,enP]
 exact ⟨by rw [hi],trivial⟩
def kw:List ByteArray := [⟨#[99,108,97,115,115]⟩,⟨#[101,120,116,101,110,100,115]⟩,⟨#[114,97,110,100]⟩,⟨#[114,97,110,100,99]⟩,⟨#[115,116,97,116,101]⟩,⟨#[99,111,110,115,116,114,97,105,110,116]⟩,⟨#[115,111,102,116]⟩,⟨#[100,105,115,116]⟩,⟨#[105,102]⟩,⟨#[101,108,115,101]⟩,⟨#[101,97,99,104]⟩,⟨#[105,110]⟩,⟨#[115,111,108,118,101]⟩,⟨#[98,101,102,111,114,101]⟩,⟨#[105,110,115,105,100,101]⟩,⟨#[112,114,111,112,101,114,116,121]⟩,⟨#[115,101,113]⟩,⟨#[97,110,100]⟩,⟨#[111,114]⟩,⟨#[110,111,116]⟩,⟨#[115,101,116]⟩,⟨#[104,111,108,100]⟩,⟨#[112,108,97,105,110]⟩,⟨#[114,101,112,101,97,116]⟩]
theorem APS:kw.length=24:=rfl
theorem AE8 (G:Nat→AV) (h:Hp):PCall (En G) 211 [] h (.sl .full 1 (kw.map encStr)):=by
 refine acN Tryz.func211 rfl ?_
 show awp _ _ _ _ _ (EE _ [.tmp 0] _)
 simp -implicitDefEqProofs only [FB,ES,BC,A8,A7,AZ,BA,AC,AQ,AO,BD,AX,AL,AU,GV,MC,BB,GM,jA,jC,enX,enP]
 refine VC (v := .sl .full 1 (kw.map encStr)) (h:=h) (by kernel_rfl) ?_
 simp -implicitDefEqProofs only [BK,A7,CU,AZ,BA,AC,AQ,AO,BD,AX,AL,AA,AY,BB,↓reduceIte,jA,jC]
 exact ⟨trivial,trivial⟩
theorem ADB (G:Nat→AV) (v:ByteArray) (h:Hp):PCall (En G) 198 [.str v] h (.bool (LY kw v)):=by
 refine acN Tryz.func198 rfl ?_
 show awp _ _ _ _ _ (EE _ [.tmp 2] _)
 simp -implicitDefEqProofs only [BC,A8,A7,AZ,BA,AC,AQ,AO,BD,AX,AL,AU,BO,BM,BB,BV,BN,jD,jE,jA,jC,enX,enP]
 refine (AE8 G h).use ?_
 simp -implicitDefEqProofs only [AZ,AC,AQ,AO,BD,AX,AL,AA,AY,BO,BH,BV,BN,BF,jF,jD,jE,↓reduceIte,jB,jA,jC]
 refine (ATI G kw .full v h (by rw [APS]; omega)).use ?_
 simp -implicitDefEqProofs only [BK,A7,CU,AZ,BA,AC,AQ,AO,BD,AX,AL,AA,AY,BB,↓reduceIte,jA,jC]
 exact ⟨trivial,trivial⟩
def KwG (G:Nat→AV):Prop := ∃ m,G 0 = .fptr 1 [[.sl m 1 (kw.map encStr)]] 0 0
theorem ABX (G:Nat→AV) (hG:KwG G) (v:ByteArray) (h:Hp):PCall (En G) 173 [.str v] h (.bool (LY kw v)):=by
 obtain ⟨m,hg⟩:=hG
 refine acN Tryz.func173 rfl ?_
 show awp _ _ _ _ _ (EE _ [.tmp 2] _)
 have e:DL Tryz.prog h 120 (G 0)=some (.sl m 1 (kw.map encStr)):=by rw [hg]; exact APL AEH rfl rfl
 have hl:kw.length≤1099511627776:=by rw [APS]; omega
 simp -implicitDefEqProofs only [BC,A8,A7,AZ,BA,AC,AQ,AO,BD,AX,AL,AA,AY,AU,BO,ATO,BM,BH,BB,BP,BV,BN,AB,BF,jF,jD,jE,↓reduceIte,jB,jA,jC,enX,enP,enG,e]
 refine (ADF G kw m v h hl).use ?_
 simp -implicitDefEqProofs only [BK,A7,CU,AZ,BA,AC,AQ,AO,BD,AX,AL,AA,AY,BB,↓reduceIte,jA,jC]
 exact ⟨trivial,trivial⟩
def RN (s:ByteArray):Bool:=(match s.data.toList with | []=>false | b :: _=>QQ b.toNat) && s.data.toList.all fun b=>MM b.toNat
def IB (s:ByteArray):Bool:=RN s && decide (s.size≤16) && !LY kw s
theorem YU {n:Int} (h:MM n=true):n < 128:=by
 simp only [MM,QQ,AH3,Bool.or_eq_true,Bool.and_eq_true,decide_eq_true_eq,beq_iff_eq] at h
 omega
theorem ASH (h:Hp) (s:ByteArray):ZG Tryz.prog h 9 (.str s)=some (.ptr h.length 0 0,h ++ [.iter s 0]):=by
 have:Tryz.prog.underlying 9=some .string:=by kernel_rfl
 simp [ZG,this]
theorem ASZ {h:Hp} {s:ByteArray} {pos:Nat} (hp:pos < s.size):Z5 (h ++ [.iter s pos]) (.ptr h.length 0 0) true=some (.tup [.bool true,.int .i64 pos,.int .i32 (Utf8.decode s pos).1],h ++ [.iter s (pos+(Utf8.decode s pos).2)]):=by
 simp [Z5,hp]
theorem APD {h:Hp} {s:ByteArray} {pos:Nat} (hp : ¬ pos < s.size):Z5 (h ++ [.iter s pos]) (.ptr h.length 0 0) true=some (.tup [.bool false],h ++ [.iter s pos]):=by
 simp [Z5,hp]
theorem SQ {s:ByteArray} {k:Nat} (hk:k < s.size) (hb:MM (s[k]'hk).toNat=false):RN s=false:=by
 unfold RN
 have:(s.data.toList.all fun b=>MM b.toNat)=false:=by
  rw [List.all_eq_false]
  exact ⟨s[k],Array.getElem_mem_toList (xs:=s.data) hk,by simp [hb]⟩
 rw [this]; simp
theorem ZM {s:ByteArray} (hk:0 < s.size) (hb:QQ (s[0]'hk).toNat=false):RN s=false:=by
 unfold RN
 have:(match s.data.toList with | []=>false | b :: _=>QQ b.toNat)=false:=by
  cases hl:s.data.toList with
  | nil=>rfl
  | cons b l =>
    have h0:s[0]'hk=b:=by
     have:s.data.toList[0]? = some b:=by rw [hl]; rfl
     have h2:s.data[0]? = some b:=by rw [← Array.getElem?_toList]; exact this
     have hk':0 < s.data.size:=hk
     rw [Array.getElem?_eq_getElem hk'] at h2
     exact Option.some.inj h2
    simp only
    rw [← h0]; exact hb
 rw [this]; simp
theorem AGF {s:ByteArray} (hk:0 < s.size) (hb:QQ (s[0]'hk).toNat=true) (ha : ∀ i (hi:i < s.size),MM (s[i]'hi).toNat=true):RN s=true:=by
 unfold RN
 have h1:(match s.data.toList with | []=>false | b :: _=>QQ b.toNat)=true:=by
  cases hl:s.data.toList with
  | nil =>
    have:s.data.toList.length=0:=by rw [hl]; rfl
    have h2:s.data.size=0:=by simpa using this
    have h3:s.size=s.data.size:=rfl
    omega
  | cons b l =>
    have h0:s[0]'hk=b:=by
     have:s.data.toList[0]? = some b:=by rw [hl]; rfl
     have h2:s.data[0]? = some b:=by rw [← Array.getElem?_toList]; exact this
     have hk':0 < s.data.size:=hk
     rw [Array.getElem?_eq_getElem hk'] at h2
     exact Option.some.inj h2
    simp only
    rw [← h0]; exact hb
 rw [h1,Bool.true_and,zA]
 intro b hbm
 obtain ⟨i,hi,rfl⟩:=List.getElem_of_mem hbm
 have hi':i < s.size:=by simpa using hi
 exact ha i hi'
theorem AMB (G:Nat→AV) (s:ByteArray) (h:Hp) (hl:s.size≤1099511627776):PCall (En G) 172 [.str s] h (.bool (RN s)):=by
 refine ACalls.pure0 rfl ?_
 refine acN Tryz.func172 rfl ?_
 show awp _ _ _ _ _ (EE _ [.tmp 2] _)
 simp -implicitDefEqProofs only [BC,CB,A8,A7,AZ,BA,AC,AQ,AO,BD,AX,AL,AA,AY,AU,BM,BH,BB,AR2,BZ,BF,↓reduceIte,jB,jA,jC,enP,ASH]
 refine D7 (fun n F H => ∃ k,n+k=s.size∧F 0 = .str s∧F 6 = .ptr h.length 0 0∧H=h ++ [.iter s k]∧(∀ i (hi:i < s.size),i < k→MM (s[i]'hi).toNat=true)∧(∀ hp:0 < s.size,0 < k→QQ (s[0]'hp).toNat=true)) s.size ⟨0,by simp,rfl,by simp -implicitDefEqProofs only [AA,↓reduceIte],rfl,fun _ _ h=>absurd h (by omega),fun _ h=>absurd h (by omega)⟩ ?_
 rintro n F H ⟨k,hk,f0,f6,rfl,hall,h0⟩
 rcases Classical.em (k < s.size) with hp | hp
 ·have go : ∀ (r:Nat × Nat),Utf8.decode s k=r→(MM r.1=true→r=((s[k]'hp).toNat,1)∧MM (s[k]'hp).toNat=true)∧(MM r.1=false→RN s=false)∧(QQ r.1=false→k=0→RN s=false)∧(QQ r.1=true→MM r.1=true):=by
   rintro r rfl
   have lf : ∀ n,QQ n=true→MM n=true:=fun n hn=>by unfold MM; rw [hn]; rfl
   rcases jT (s[k]'hp).toNat 128 with ha | ha
   ·have hd:=decode_ascii s k hp ha
    rw [hd]
    exact ⟨fun hf=>⟨rfl,hf⟩,fun hf=>SQ hp hf,fun hf h0=>by subst h0; exact ZM hp hf,lf _⟩
   ·have hd:=(decode_high s k hp ha).1
    refine ⟨fun hf => ?_,fun _ => ?_,fun _ h0 => ?_,lf _⟩
    ·have:=YU hf; omega
    ·refine SQ hp ?_
     cases hf:MM (s[k]'hp).toNat with
     | false=>rfl
     | true=>have:=YU hf; omega
    ·refine SQ hp ?_
     cases hf:MM (s[k]'hp).toNat with
     | false=>rfl
     | true=>have:=YU hf; omega
  simp -implicitDefEqProofs only [jZ,List.getElem?_cons_succ,BC,CB,A8,BR,BJ,A7,DR,AZ,BA,BL,BX,CG,AC,AQ,AO,BD,AX,AL,AA,AY,AU,BG,BH,BB,BU,AN5,GH,IW,BZ,AB,DJ,↓reduceIte,jB,jA,jC,enP,f0,f6,ASZ hp]
  generalize hr:Utf8.decode s k=r at go
  obtain ⟨g1,g2,g3,g4⟩:=go r rfl
  have done : ∀ H',MM r.1=true→(k=0→QQ r.1=true)→H'=h ++ [ABlk.iter s (k+r.2)]→∃ m,m < n∧∃ k',m+k'=s.size∧H'=h ++ [.iter s k']∧(∀ i (hi:i < s.size),i < k'→MM (s[i]'hi).toNat=true)∧(∀ hp:0 < s.size,0 < k'→QQ (s[0]'hp).toNat=true):=by
   intro H' hf hlw hH
   obtain ⟨e1,e2⟩:=g1 hf
   refine ⟨n - 1,by omega,k+1,by omega,by rw [hH,e1],fun i hi hik => ?_,fun hp0 _ => ?_⟩
   ·rcases jT i k with h' | h'
    ·exact hall i hi h'
    ·have:i=k:=by omega
     subst this; exact e2
   ·rcases qA k with h' | h'
    ·subst h'; have:=hlw rfl; rw [e1] at this; exact this
    ·exact h0 hp0 h'
  refine IV (fun ha => ?_) (fun ha => ?_)
  ·have hk0:k=0:=by simp at ha; omega
   simp -implicitDefEqProofs only [BL,BX,CG,F8,AC,AQ,AO,BD,AX,AL,AA,AY,BO,BH,BV,BN,jF,jD,jE,↓reduceIte,jB,jA,jC,ha]
   refine (ABP G _ _).use ?_
   simp -implicitDefEqProofs only [AZ,BL,BX,CG,F8,AC,AQ,AO,BD,AX,AL,AA,AY,AU,BM,BH,CO,DK,I5,AB,FO,↓reduceIte,jB,jA,jC]
   refine IV (fun hb => ?_) (fun hb => ?_)
   ·simp -implicitDefEqProofs only [BC,A8,BK,BJ,A7,CJ,D5,FV,CU,DR,AZ,BA,BL,BX,CG,FY,AC,AQ,AO,BD,AX,AL,AA,EG,AY,AU,BM,BB,CO,DK,↓reduceIte,jB,jA,jC,hb]
    have hlw:QQ r.1=false:=by simpa using hb
    exact ⟨by rw [g3 hlw hk0],_,rfl⟩
   have hlw:QQ r.1=true:=by simpa using hb
   simp -implicitDefEqProofs only [BL,BX,CG,EM,AC,AQ,AO,BD,AX,AL,AA,AY,BO,BH,BV,BN,jF,jD,jE,↓reduceIte,jB,jA,jC,hb]
   refine (XZ G _ _).use ?_
   simp -implicitDefEqProofs only [BJ,A7,AZ,BA,BL,BX,CG,EM,AC,AQ,AO,BD,AX,AL,AA,AY,AU,BM,CO,DU,I5,AB,FO,↓reduceIte,jB,jA,jC]
   have hf:=g4 hlw
   simp -implicitDefEqProofs only [BR,EK,FI,DX,AA,↓reduceIte,jB,Bool.not_true,hf]
   obtain ⟨m,h1,k',h2,h3,h4,h5⟩:=done _ hf (fun _=>hlw) rfl
   exact ⟨m,h1,k',h2,f0,f6,h3,h4,h5⟩
  ·have hk0:k≠0:=by intro e; subst e; simp at ha
   simp -implicitDefEqProofs only [AZ,BL,BX,CG,EM,JA,AC,AQ,AO,BD,AX,AL,AA,EG,AY,AU,BO,BM,BH,CO,DU,BV,BN,jF,jD,jE,↓reduceIte,jB,jA,jC,ha]
   refine (XZ G _ _).use ?_
   simp -implicitDefEqProofs only [BJ,A7,AZ,BA,BL,BX,CG,EM,AC,AQ,AO,BD,AX,AL,AA,AY,AU,BM,CO,DU,I5,AB,FO,↓reduceIte,jB,jA,jC]
   refine CV (fun hb => ?_) (fun hb => ?_)
   ·have hf:MM r.1=false:=by simpa using hb
    simp -implicitDefEqProofs only [BC,A8,BK,A7,CJ,D5,FV,CU,AZ,BA,AC,AQ,AO,BD,AX,AL,AA,AU,BM,BB,↓reduceIte,jA,jC]
    exact ⟨by rw [g2 hf],_,rfl⟩
   ·have hf:MM r.1=true:=by simpa using hb
    simp -implicitDefEqProofs only [BR,EK,FI,AA,↓reduceIte,jB]
    obtain ⟨m,h1,k',h2,h3,h4,h5⟩:=done _ hf (fun e=>absurd e hk0) rfl
    exact ⟨m,h1,k',h2,f0,f6,h3,h4,h5⟩
 ·simp -implicitDefEqProofs only [jZ,BC,A8,BK,D6,BJ,A7,EU,FT,FX,CU,DX,AZ,BA,AC,AQ,AO,BD,AX,AL,AA,AY,AU,GV,BH,BB,BU,AN5,GH,IW,BZ,AB,ACQ,↓reduceIte,jB,jA,jC,enP,f0,f6,APD hp]
  have hks:k=s.size:=by omega
  refine ⟨?_,_,rfl⟩
  congr 1
  rcases qA s.size with hz | hz
  ·have:s=⟨#[]⟩:=by
    obtain ⟨d⟩:=s
    have:d.size=0:=hz
    rw [Array.eq_empty_of_size_eq_zero this]
   subst this
   rw [ByteArray.toList_eq]
   rfl
  ·rw [AGF hz (h0 hz (by omega)) (fun i hi=>hall i hi (by omega))]
   have hne:s.toList≠[]:=by
    rw [ByteArray.toList_eq]
    intro e
    have:s.data.toList.length=0:=by rw [e]; rfl
    have h2:s.data.size=0:=by simpa using this
    have h3:s.size=s.data.size:=rfl
    omega
   cases hl2:s.toList with
   | nil=>exact absurd hl2 hne
   | cons=>rw [ByteArray.toList_eq]; rfl
theorem O6 (G:Nat→AV) (hG:KwG G) (s:ByteArray) (h:Hp) (hl:s.size≤1099511627776):PCall (En G) 133 [.str s] h (.bool (IB s)):=by
 refine acN Tryz.func133 rfl ?_
 show awp _ _ _ _ _ (EE _ [.tmp 2] _)
 simp -implicitDefEqProofs only [BC,A8,A7,AZ,BA,AC,AQ,AO,BD,AX,AL,AA,AY,AU,BO,BM,BH,BB,BV,BN,BF,jF,jD,jE,↓reduceIte,jB,jA,jC,enX,enP]
 refine (AMB G s h hl).use ?_
 simp -implicitDefEqProofs only [AZ,BL,BX,CG,AC,AQ,AO,BD,AX,AL,AA,AY,BH,↓reduceIte,jA,jC]
 refine IV (fun ha => ?_) (fun ha => ?_)
 ·simp -implicitDefEqProofs only [AZ,BL,BX,CG,F8,AC,AQ,AO,BD,AX,AL,AA,AY,AU,BG,BM,BH,CO,DK,BU,E5,AB,I7,BF,↓reduceIte,jB,jA,jC,enP,ln9,ha]
  refine IV (fun hb => ?_) (fun hb => ?_)
  ·simp -implicitDefEqProofs only [BL,BX,CG,F8,AC,AQ,AO,BD,AX,AL,AA,AY,BO,BH,BV,BN,BF,jF,jD,jE,↓reduceIte,jB,jA,jC,hb]
   refine (ABX G hG s h).use ?_
   simp -implicitDefEqProofs only [BK,A7,CU,AZ,BA,BL,BX,CG,F8,AC,AQ,AO,BD,AX,AL,AA,AY,AU,BM,BB,CO,DK,I5,AB,FO,↓reduceIte,jB,jA,jC]
   refine ⟨?_,trivial⟩
   have:decide (s.size≤16)=true:=by simp at hb ⊢; omega
   unfold IB; rw [ha,this]; rfl
  ·simp -implicitDefEqProofs only [BK,A7,CU,AZ,BA,BL,BX,CG,JA,AC,AQ,AO,BD,AX,AL,AA,EG,AY,AU,BM,BB,CO,DU,↓reduceIte,jB,jA,jC,hb]
   refine ⟨?_,trivial⟩
   have:decide (s.size≤16)=false:=by simp at hb ⊢; omega
   unfold IB; rw [ha,this]; rfl
 ·simp -implicitDefEqProofs only [BK,A7,CU,AZ,BA,BL,BX,CG,JA,AC,AQ,AO,BD,AX,AL,AA,EG,AY,AU,BM,BH,BB,CO,DU,↓reduceIte,jB,jA,jC,ha]
  exact ⟨by unfold IB; rw [ha]; rfl,trivial⟩
theorem ix9 (s:ByteArray) (k:Nat) (kk:IntKind) (hk:k < s.size):LD Tryz.prog 9 (.str s) (.int kk (k:Int))=some (.int .u8 (s[k]'hk).toNat):=by
 have hu:Tryz.prog.underlying 9=some .string:=by kernel_rfl
 have h0:(0:Int)≤(k:Int):=by omega
 have:s[k]? = some (s[k]'hk):=by simp [hk]
 simp [LD,hu,h0,this]
theorem QA (G:Nat→AV) (s:ByteArray) (h:Hp):PCall (En G) 168 [.str s] h (.bool (IB s)):=by
 refine acN Tryz.func168 rfl ?_
 show awp _ _ _ _ _ (EE _ [.tmp 2] _)
 simp -implicitDefEqProofs only [BC,A8,A7,AZ,BA,BL,BX,CG,AC,AQ,AO,BD,AX,AL,AA,AY,AU,BM,GV,BH,BB,BU,AB,KQ,BF,↓reduceIte,jB,jA,jC,enX,enP]
 refine IV (fun ha => ?_) (fun ha => ?_)
 ·simp -implicitDefEqProofs only [BC,A8,BK,BJ,A7,CJ,CU,DR,AZ,BA,BL,BX,CG,FY,AC,AQ,AO,BD,AX,AL,AA,EG,AY,AU,BM,BH,BB,CO,DK,↓reduceIte,jB,jA,jC,ha]
  refine ⟨?_,trivial⟩
  have:s.data.toList = []:=by
   rw [ByteArray.toList_eq,ByteArray.toList_eq] at ha
   have:=beq_iff_eq.1 ha
   exact this
  unfold IB RN; rw [this]; rfl
 have hz:0 < s.size:=by
  rcases qA s.size with hz | hz
  ·have:s=⟨#[]⟩:=by
    obtain ⟨d⟩:=s
    have:d.size=0:=hz
    rw [Array.eq_empty_of_size_eq_zero this]
   rw [this] at ha
   simp at ha
  ·exact hz
 simp -implicitDefEqProofs only [AZ,BL,BX,CG,EM,AC,AQ,AO,BD,AX,AL,AA,AY,AU,BG,BM,BH,CO,DU,BU,E5,AB,EY,BF,↓reduceIte,jB,jA,jC,enP,ln9,ha]
 refine IV (fun hb => ?_) (fun hb => ?_)
 ·simp -implicitDefEqProofs only [BC,A8,BK,BJ,A7,CJ,CU,DR,AZ,BA,BL,BX,CG,FY,AC,AQ,AO,BD,AX,AL,AA,EG,AY,AU,BM,BH,BB,CO,DK,↓reduceIte,jB,jA,jC,hb]
  refine ⟨?_,trivial⟩
  have:decide (s.size≤16)=false:=by simp at hb ⊢; omega
  unfold IB; rw [this]; simp
 have h16:decide (s.size≤16)=true:=by simp at hb ⊢; omega
 simp -implicitDefEqProofs only [BL,BX,CG,EM,AC,AQ,AO,BD,AX,AL,AA,AY,AU,BG,BH,KJ,BF,↓reduceIte,jB,jA,jC,enP,hb]
 refine VC (v := .int .u8 (s[0]'hz).toNat) (h:=h) (by rw [show (0:Int)=((0:Nat):Int) from rfl,ix9 s 0 .i64 hz]; rfl) ?_
 simp -implicitDefEqProofs only [BL,BX,CG,EM,AC,AQ,AO,BD,AX,AL,AA,AY,BO,BV,BN,jF,jD,jE,↓reduceIte,jB,jA,jC]
 refine (ADO G _ h).use ?_
 simp -implicitDefEqProofs only [AZ,BL,BX,CG,EM,AC,AQ,AO,BD,AX,AL,AA,AY,AU,BM,BH,CO,DU,I5,AB,FO,↓reduceIte,jB,jA,jC]
 refine IV (fun hc => ?_) (fun hc => ?_)
 ·simp -implicitDefEqProofs only [BC,A8,BK,BJ,A7,CJ,CU,DR,AZ,BA,BL,BX,CG,FY,AC,AQ,AO,BD,AX,AL,AA,EG,AY,AU,BM,BB,CO,DK,↓reduceIte,jB,jA,jC,hc]
  refine ⟨?_,trivial⟩
  unfold IB; rw [ZM hz (by simpa using hc)]; rfl
 simp -implicitDefEqProofs only [BL,BX,CG,EM,AC,AQ,AO,BD,AX,AL,AA,AY,BO,BH,BV,BN,BF,jF,jD,jE,↓reduceIte,jB,jA,jC,hc]
 refine (ADB G s h).use ?_
 simp -implicitDefEqProofs only [BJ,A7,AZ,BA,AC,AQ,AO,BD,AX,AL,AA,AY,AU,BM,CO,DU,↓reduceIte,jB,jA,jC]
 refine CV (fun hd => ?_) (fun hd => ?_)
 ·simp -implicitDefEqProofs only [BC,A8,BK,A7,CJ,CU,AZ,BA,AC,AQ,AO,BD,AX,AL,AA,AU,BM,BB,↓reduceIte,jA,jC]
  refine ⟨?_,trivial⟩
  unfold IB; rw [hd]; simp
 simp -implicitDefEqProofs only [BC,CB,A8,BR,A7,AZ,BA,AC,AQ,AO,BD,AX,AL,AU,BG,BB,jA,jC]
 have hlow:QQ (s[0]'hz).toNat=true:=by simpa using hc
 refine D7 (fun n F H => ∃ k,n+k=s.size∧F 0 = .str s∧F 3 = .int .i64 (k:Nat)∧H=h∧(∀ i (hi:i < s.size),i < k→MM (s[i]'hi).toNat=true)) s.size ⟨0,by simp,by simp -implicitDefEqProofs only [AA,BF,↓reduceIte,jB],by simp -implicitDefEqProofs only [AA,↓reduceIte]; rfl,rfl,fun _ _ h=>absurd h (by omega)⟩ ?_
 rintro n F H ⟨k,hk,f0,f3,rfl,hall⟩
 simp -implicitDefEqProofs only [BC,A8,BJ,A7,AZ,BA,AC,AQ,AO,BD,AX,AL,AA,AY,BH,BU,E5,AB,DF,↓reduceIte,jB,jA,jC,enP,ln9,f0,f3]
 refine CV (fun he => ?_) (fun he => ?_)
 ·have hk':k < s.size:=by simpa using he
  simp -implicitDefEqProofs only [BC,CB,A8,BR,A7,AZ,AC,AQ,AO,BD,AX,AL,AA,AY,BO,BH,KJ,BV,BN,AB,jF,jD,jE,↓reduceIte,jB,jA,jC,enP,f0,f3,ix9 s k .i64 hk']
  refine (AM7 G _ _).use ?_
  simp -implicitDefEqProofs only [BJ,A7,AZ,BA,AC,AQ,AO,BD,AX,AL,AA,AY,I5,AB,FO,↓reduceIte,jA,jC]
  refine CV (fun hf => ?_) (fun hf => ?_)
  ·simp -implicitDefEqProofs only [BC,A8,BK,A7,CJ,D5,FV,CU,AZ,BA,AC,AQ,AO,BD,AX,AL,AA,AU,BM,BB,↓reduceIte,jA,jC]
   refine ⟨?_,trivial⟩
   unfold IB; rw [SQ hk' (by simpa using hf)]; rfl
  ·simp -implicitDefEqProofs only [A8,BR,A7,EK,FI,AZ,BA,AC,AQ,AO,BD,AX,AL,AA,AY,AU,BG,BH,BB,BU,AB,DY,↓reduceIte,jB,jA,jC,enP,f3,wrap_succ (show k < 9223372036854775807 by simp at h16; omega)]
   refine ⟨n - 1,by omega,k+1,by omega,f0,rfl,trivial,fun i hi hik => ?_⟩
   rcases jT i k with h' | h'
   ·exact hall i hi h'
   ·have:i=k:=by omega
    subst this; simpa using hf
 ·have hk' : ¬ k < s.size:=by simpa using he
  simp -implicitDefEqProofs only [BC,A8,BK,D6,A7,EU,FT,FX,CU,AZ,BA,AC,AQ,AO,BD,AX,AL,AA,AU,BM,BB,↓reduceIte,jA,jC]
  refine ⟨?_,trivial⟩
  unfold IB
  rw [AGF hz hlow (fun i hi=>hall i hi (by omega)),h16,hd]; rfl
end Go.Proofs.YtokehnfjjmpanaaGreatDoor.Bins
namespace Go.Proofs.YtokehnfjjmpanaaGreatDoor.Cov
open Sm Bins
open Bool renaming not_false→jC
open Int renaming reduceBEq→zO
open List renaming take_of_length_le→jX
open Nat renaming le_refl→jL,le_of_ble_eq_true→jH,reduceEqDiff→jB,add_zero→jI
open Option renaming getD_some→jA
inductive Ex where
 | mk (op n:Int) (name:ByteArray) (m:SM) (args:List Ex)
def Ex.op:Ex→Int | .mk op _ _ _ _=>op
def Ex.n:Ex→Int | .mk _ n _ _ _=>n
def Ex.name:Ex→ByteArray | .mk _ _ name _ _=>name
def Ex.m:Ex→SM | .mk _ _ _ m _=>m
def Ex.args:Ex→List Ex | .mk _ _ _ _ args=>args
mutual
def CW:Ex→List AV
 | .mk op n name m args => [.int .i64 op,.int .i64 n,.str name,.sl m 4 (AHY args)]
def AHY:List Ex→List (List AV)
 | [] => []
 | e :: es=>CW e :: AHY es
end
theorem AD5 : ∀ l:List Ex,AHY l=l.map CW
 | []=>by simp [AHY]
 | e :: es=>by simp [AHY,AD5 es]
theorem MV (e:Ex):CW e = [.int .i64 e.op,.int .i64 e.n,.str e.name,.sl e.m 4 (e.args.map CW)]:=by
 cases e; simp [CW,AD5,Ex.op,Ex.n,Ex.name,Ex.m,Ex.args]
theorem EN (e:Ex):(CW e).length=4:=by rw [MV]; rfl
theorem JE (e:Ex):(CW e)[0]? = some (.int .i64 e.op):=by rw [MV]; rfl
theorem X8 (e:Ex):(CW e)[1]? = some (.int .i64 e.n):=by rw [MV]; rfl
theorem O9 (e:Ex):(CW e)[2]? = some (.str e.name):=by rw [MV]; rfl
theorem SB (e:Ex):(CW e)[3]? = some (.sl e.m 4 (e.args.map CW)):=by rw [MV]; rfl
theorem KU (e:Ex):(CW e).all AV.leaf=true:=by rw [MV]; rfl
theorem bxE (h:Hp) (e:Ex):PG h (.agg (CW e))=some (.ptr h.length 0 0,h ++ [.live 4 [CW e]]):=by
 have:=AFT (h:=h) (KU e)
 rw [EN] at this; exact this
theorem ldE (h:Hp) (e:Ex):DL Tryz.prog (h ++ [.live 4 [CW e]]) 40 (.ptr h.length 0 0)=some (.agg (CW e)):=by
 rw [AM1 MK J4 (by rw [EN]; exact jL 4)]
 rw [List.drop_zero,jX (by rw [EN]; exact jL 4)]
theorem IR {h:Hp} {b:Nat} {e:Ex} (hb:h[b]? = some (.live 4 [CW e])):DL Tryz.prog h 40 (.ptr b 0 0)=some (.agg (CW e)):=by
 rw [HY MK J4 hb rfl (by rw [EN]; exact jL 4)]
 rw [List.drop_zero,jX (by rw [EN]; exact jL 4)]
mutual
def pre:Ex→List Ex
 | .mk op n name m args => .mk op n name m args :: II args
def II:List Ex→List Ex
 | [] => []
 | e :: es=>pre e ++ II es
end
mutual
def dep:Ex→Nat
 | .mk _ _ _ _ args=>deps args+1
def deps:List Ex→Nat
 | []=>0
 | e :: es=>max (dep e) (deps es)
end
mutual
def wt:Ex→Nat
 | .mk _ _ name _ args=>name.size+1+wts args
def wts:List Ex→Nat
 | []=>0
 | e :: es=>wt e+wts es
end
theorem pre_eq (e:Ex):pre e=e :: II e.args:=by cases e; simp [pre,Ex.args]
theorem AFQ (e:Ex):dep e=deps e.args+1:=by cases e; simp [dep,Ex.args]
theorem PQ (e:Ex):wt e=e.name.size+1+wts e.args:=by cases e; simp [wt,Ex.args,Ex.name]
theorem LV (xs ys:List Ex):II (xs ++ ys)=II xs ++ II ys:=by
 induction xs with
 | nil=>simp [II]
 | cons x xs ih=>simp [II,ih]
theorem XC (xs:List Ex):xs.length≤wts xs:=by
 induction xs with
 | nil=>simp [wts]
 | cons x xs ih=>have:=PQ x; simp [wts]; omega
theorem UX {xs:List Ex} {x:Ex} (h:x∈xs):wt x≤wts xs:=by
 induction xs with
 | nil=>cases h
 | cons y ys ih =>
   simp only [wts]
   cases List.mem_cons.1 h with
   | inl e=>subst e; omega
   | inr e=>have:=ih e; omega
theorem AD8 (xs:List Ex) (k:Nat) (h:k < xs.length):deps (xs.take (k+1))=max (deps (xs.take k)) (dep xs[k]):=by
 induction xs generalizing k with
 | nil=>simp at h
 | cons x xs ih =>
   cases k with
   | zero=>simp [deps]
   | succ k =>
     simp only [List.take_succ_cons,deps,List.getElem_cons_succ]
     rw [ih k (by simpa using h),Nat.max_assoc]
theorem Ex.induct {P:Ex→Prop} (h : ∀ e:Ex,(∀ a∈e.args,P a)→P e) (e:Ex):P e:=by
 have : ∀ n (e:Ex),wt e≤n→P e:=by
  intro n
  induction n with
  | zero=>intro e he; have:=PQ e; omega
  | succ n ih =>
    intro e he
    refine h e fun a ha=>ih a ?_
    have h1:=UX ha
    have h2:=PQ e
    omega
 exact this _ e (jL _)
theorem AQT (e:Ex):dep e≤wt e:=by
 refine Ex.induct (P:=fun e=>dep e≤wt e) (fun e ih => ?_) e
 rw [AFQ,PQ]
 have:deps e.args≤wts e.args:=by
  generalize e.args=l at ih
  induction l with
  | nil=>simp [deps,wts]
  | cons x l ih2 =>
    have h1:=ih x (by simp)
    have h2:=ih2 (fun a ha=>ih a (by simp [ha]))
    simp only [deps,wts]; omega
 omega
theorem WF (e:Ex):(pre e).length≤wt e:=by
 refine Ex.induct (P:=fun e=>(pre e).length≤wt e) (fun e ih => ?_) e
 rw [pre_eq,PQ]
 have:(II e.args).length≤wts e.args:=by
  generalize e.args=l at ih
  induction l with
  | nil=>simp [II,wts]
  | cons x l ih2 =>
    have h1:=ih x (by simp)
    have h2:=ih2 (fun a ha=>ih a (by simp [ha]))
    simp only [II,wts,List.length_append]; omega
 simp; omega
def arity (op:Int):Int:=if op < 1∨op > 25 then -1 else if op=1∨op=2∨op=24 then 0 else if op=3∨op=4∨op=5∨op=6∨op=25 then 1 else if op=22 then 3 else if op=23 then -1 else 2
set_option maxHeartbeats 2000000 in
theorem AKG (G:Nat→AV) (op:Int) (h:Hp):PCall (En G) 170 [.int .i64 op] h (.int .i64 (arity op)):=by
 refine acN Tryz.func170 rfl ?_
 show awp _ _ _ _ _ (EE _ [.tmp 2] _)
 have hcase:op < 1∨op > 25∨op=1∨op=2∨op=3∨op=4∨op=5∨op=6∨op=7∨op=8∨op=9∨op=10∨op=11∨op=12∨op=13∨op=14∨op=15∨op=16∨op=17∨op=18∨op=19∨op=20∨op=21∨op=22∨op=23∨op=24∨op=25:=by omega
 rcases hcase with h | h | rfl | rfl | rfl | rfl | rfl | rfl | rfl | rfl | rfl | rfl | rfl | rfl | rfl | rfl | rfl | rfl | rfl | rfl | rfl | rfl | rfl | rfl | rfl | rfl | rfl
 ·have hne : ∀ k:Int,1≤k→(op == k)=false:=fun k hk=>beq_eq_false_iff_ne.2 (by omega)
  have hd:decide (op < 1)=true:=by simp; omega
  have ha:arity op = -1:=by unfold arity; rw [if_pos (Or.inl h)]
  rw [ha]
  simp -implicitDefEqProofs only [BC,CB,A8,BR,BK,BJ,A7,CJ,EK,CU,DR,DX,AZ,BA,BL,BX,CG,FY,AC,AQ,AO,BD,AX,AL,AA,EG,AY,AU,BG,BM,BH,BB,CO,DK,BU,AB,DJ,DF,BF,↓reduceIte,jB,jA,jC,enX,enP,hne 1 (by decide),hne 2 (by decide),hne 3 (by decide),hne 4 (by decide),hne 5 (by decide),hne 6 (by decide),hne 7 (by decide),hne 8 (by decide),hne 9 (by decide),hne 10 (by decide),hne 11 (by decide),hne 12 (by decide),hne 13 (by decide),hne 14 (by decide),hne 15 (by decide),hne 16 (by decide),hne 17 (by decide),hne 18 (by decide),hne 19 (by decide),hne 20 (by decide),hne 21 (by decide),hne 22 (by decide),hne 23 (by decide),hne 24 (by decide),hne 25 (by decide),hd]
  exact ⟨trivial,trivial⟩
 ·have hne : ∀ k:Int,k≤25→(op == k)=false:=fun k hk=>beq_eq_false_iff_ne.2 (by omega)
  have hd:decide (op < 1)=false:=by simp; omega
  have hd2:decide (op > 25)=true:=by simp; omega
  have ha:arity op = -1:=by unfold arity; rw [if_pos (Or.inr h)]
  rw [ha]
  simp -implicitDefEqProofs only [BC,CB,A8,BR,BK,BJ,A7,CJ,EK,CU,DR,DX,AZ,BA,BL,BX,CG,EM,AC,AQ,AO,BD,AX,AL,AA,AY,AU,BG,BM,BH,BB,CO,DU,BU,AB,DJ,DF,EY,BF,↓reduceIte,jB,jA,jC,enX,enP,hne 1 (by decide),hne 2 (by decide),hne 3 (by decide),hne 4 (by decide),hne 5 (by decide),hne 6 (by decide),hne 7 (by decide),hne 8 (by decide),hne 9 (by decide),hne 10 (by decide),hne 11 (by decide),hne 12 (by decide),hne 13 (by decide),hne 14 (by decide),hne 15 (by decide),hne 16 (by decide),hne 17 (by decide),hne 18 (by decide),hne 19 (by decide),hne 20 (by decide),hne 21 (by decide),hne 22 (by decide),hne 23 (by decide),hne 24 (by decide),hne 25 (by decide),hd,hd2]
  exact ⟨trivial,trivial⟩
 all_goals
  simp -implicitDefEqProofs only [BC,CB,A8,BR,BK,BJ,A7,CJ,EK,D5,CU,DR,DX,AZ,BA,BL,BX,CG,EM,AC,AQ,AO,BD,AX,AL,AA,AY,AU,BG,BM,BH,BB,CO,DU,BU,AB,DJ,DF,EY,BF,↓reduceIte,jB,jA,jC,decide_false,enX,enP,zO,Int.reduceLT,Int.reduceGT]
  exact ⟨rfl,trivial⟩
set_option maxHeartbeats 2000000 in
theorem ANR (G:Nat→AV) (op:Int) (h:Hp):PCall (En G) 203 [.int .i64 op] h (.int .i64 (arity op)):=by
 refine acN Tryz.func203 rfl ?_
 show awp _ _ _ _ _ (EE _ [.tmp 2] _)
 have hcase:op < 1∨op > 25∨op=1∨op=2∨op=3∨op=4∨op=5∨op=6∨op=7∨op=8∨op=9∨op=10∨op=11∨op=12∨op=13∨op=14∨op=15∨op=16∨op=17∨op=18∨op=19∨op=20∨op=21∨op=22∨op=23∨op=24∨op=25:=by omega
 rcases hcase with h | h | rfl | rfl | rfl | rfl | rfl | rfl | rfl | rfl | rfl | rfl | rfl | rfl | rfl | rfl | rfl | rfl | rfl | rfl | rfl | rfl | rfl | rfl | rfl | rfl | rfl
 ·have hne : ∀ k:Int,1≤k→(op == k)=false:=fun k hk=>beq_eq_false_iff_ne.2 (by omega)
  have hd:decide (op < 1)=true:=by simp; omega
  have ha:arity op = -1:=by unfold arity; rw [if_pos (Or.inl h)]
  rw [ha]
  simp -implicitDefEqProofs only [BC,CB,A8,BR,BK,BJ,A7,CJ,EK,CU,DR,DX,AZ,BA,BL,BX,CG,FY,AC,AQ,AO,BD,AX,AL,AA,EG,AY,AU,BG,BM,BH,BB,CO,DK,BU,AB,DJ,DF,BF,↓reduceIte,jB,jA,jC,enX,enP,hne 1 (by decide),hne 2 (by decide),hne 3 (by decide),hne 4 (by decide),hne 5 (by decide),hne 6 (by decide),hne 7 (by decide),hne 8 (by decide),hne 9 (by decide),hne 10 (by decide),hne 11 (by decide),hne 12 (by decide),hne 13 (by decide),hne 14 (by decide),hne 15 (by decide),hne 16 (by decide),hne 17 (by decide),hne 18 (by decide),hne 19 (by decide),hne 20 (by decide),hne 21 (by decide),hne 22 (by decide),hne 23 (by decide),hne 24 (by decide),hne 25 (by decide),hd]
  exact ⟨trivial,trivial⟩
 ·have hne : ∀ k:Int,k≤25→(op == k)=false:=fun k hk=>beq_eq_false_iff_ne.2 (by omega)
  have hd:decide (op < 1)=false:=by simp; omega
  have hd2:decide (op > 25)=true:=by simp; omega
  have ha:arity op = -1:=by unfold arity; rw [if_pos (Or.inr h)]
  rw [ha]
  simp -implicitDefEqProofs only [BC,CB,A8,BR,BK,BJ,A7,CJ,EK,CU,DR,DX,AZ,BA,BL,BX,CG,EM,AC,AQ,AO,BD,AX,AL,AA,AY,AU,BG,BM,BH,BB,CO,DU,BU,AB,DJ,DF,EY,BF,↓reduceIte,jB,jA,jC,enX,enP,hne 1 (by decide),hne 2 (by decide),hne 3 (by decide),hne 4 (by decide),hne 5 (by decide),hne 6 (by decide),hne 7 (by decide),hne 8 (by decide),hne 9 (by decide),hne 10 (by decide),hne 11 (by decide),hne 12 (by decide),hne 13 (by decide),hne 14 (by decide),hne 15 (by decide),hne 16 (by decide),hne 17 (by decide),hne 18 (by decide),hne 19 (by decide),hne 20 (by decide),hne 21 (by decide),hne 22 (by decide),hne 23 (by decide),hne 24 (by decide),hne 25 (by decide),hd,hd2]
  exact ⟨trivial,trivial⟩
 all_goals
  simp -implicitDefEqProofs only [BC,CB,A8,BR,BK,BJ,A7,CJ,D5,CU,DR,DX,AZ,BA,AC,AQ,AO,BD,AX,AL,AA,AY,AU,BG,BH,BB,BU,AB,DJ,BF,↓reduceIte,jB,jA,jC,enX,enP,zO,Int.reduceLT,Int.reduceGT]
  exact ⟨rfl,trivial⟩
def J8 (op:Int):Bool:=op == 2 || op == 3 || op == 24
theorem U8 (G:Nat→AV) (op:Int) (h:Hp):PCall (En G) 149 [.int .i64 op] h (.bool (J8 op)):=by
 refine acN Tryz.func149 rfl ?_
 show awp _ _ _ _ _ (EE _ [.tmp 2] _)
 simp -implicitDefEqProofs only [BC,A8,A7,AZ,BA,BL,BX,CG,AC,AQ,AO,BD,AX,AL,AA,AY,AU,BG,BM,BH,BB,BU,AB,DJ,BF,↓reduceIte,jB,jA,jC,enX,enP]
 cases ha:(op == 2) <;> cases hb:(op == 3)
 all_goals
  simp -implicitDefEqProofs only [BK,A7,CU,AZ,BA,BL,BX,CG,EM,FY,AC,AQ,AO,BD,AX,AL,AA,EG,AY,AU,BG,BM,BH,BB,CO,DK,DU,BU,AB,DJ,BF,↓reduceIte,jB,jA,jC,enP,ha,hb]
  exact ⟨by simp [J8,ha,hb],trivial⟩
def VP (op:Int) (n:Nat):Bool:=if op == 23 then ((n:Int) % 2 == 1) && decide ((n:Int)≥3) && decide ((n:Int)≤33) else ((n:Int) == arity op)
theorem AC7 (G:Nat→AV) (e:Ex) (h:Hp):PCall (En G) 131 [.agg (CW e)] h (.bool (VP e.op e.args.length)):=by
 refine ACalls.pure0 rfl ?_
 refine acN Tryz.func131 rfl ?_
 show awp _ _ _ _ _ (EE _ [.tmp 2] _)
 simp -implicitDefEqProofs only [BC,A8,BJ,A7,AZ,BA,AC,AQ,AO,BD,AX,AL,AA,AY,AU,BG,BM,BB,FN,BP,BU,BI,E5,BZ,AB,DJ,BF,↓reduceIte,jB,jI,Nat.zero_add,jA,jC,enP,TT,GU,JW,bxE,EH QU,EH ag3,SB,JE,List.length_map]
 generalize he:e.args.length=n
 have hm:(n:Int).tmod 2=(n:Int) % 2:=Int.tmod_eq_emod_of_nonneg (by omega)
 have b1:G8 Tryz.prog 3 .rem (.int .i64 (n:Int)) (.int .i64 2)=some (.int .i64 ((n:Int) % 2)):=by rw [VE _ _ _ _ _ (by decide),hm]
 refine CV (fun hc => ?_) (fun hc => ?_)
 ·simp -implicitDefEqProofs only [BC,A8,AZ,BL,BX,CG,AC,AQ,AO,BD,AX,AL,AA,AY,AU,BG,BH,BU,AB,DJ,↓reduceIte,jB,jA,jC,enP,b1]
  cases ha:((n:Int) % 2 == 1) <;> cases hb:decide ((n:Int)≥3)
  all_goals
   simp -implicitDefEqProofs only [BK,A7,CJ,CU,AZ,BA,BL,BX,CG,F8,JA,AC,AQ,AO,BD,AX,AL,AA,EG,AY,AU,BG,BM,BH,BB,CO,DK,DU,BU,AB,I7,FQ,↓reduceIte,jB,jA,jC,enP,ha,hb]
   exact ⟨by unfold VP; rw [if_pos hc,ha,hb]; simp,_,rfl⟩
 ·simp -implicitDefEqProofs only [BC,A8,BR,A7,AZ,AC,AQ,AO,BD,AX,AL,AA,AY,BO,BH,BP,BI,BV,BN,AB,List.map_cons,List.map_nil,List.append_nil,↓reduceIte,jB,jI,jA,jC,enP,GU,EH ag3,JE]
  refine (AKG G e.op _).use ?_
  simp -implicitDefEqProofs only [BK,A7,CU,AZ,BA,AC,AQ,AO,BD,AX,AL,AA,AY,BB,BU,AB,DJ,↓reduceIte,jB,jA,jC,enP]
  exact ⟨by unfold VP; rw [if_neg (by rw [hc]; decide)],_,rfl⟩
end Go.Proofs.YtokehnfjjmpanaaGreatDoor.Cov
namespace Go.Proofs.YtokehnfjjmpanaaGreatDoor.Cov
open Sm Bins Go.Shelf Go.RowKit
open Bool renaming and_eq_true→jV
open Int renaming toNat_natCast→zG
open List renaming take_append_drop→wB,drop_eq_getElem_cons→qC,getElem?_eq_getElem→jU
def AQW:Go.Shelf.Ren:=⟨fun | 145=>156 | 220=>191 | 219=>206 | 217=>215 | 225=>216 | 224=>217 | 267=>218 | 266=>220 | 314=>221 | n=>n,fun | 9=>9 | 4=>4 | 59=>156 | 3=>3 | 5=>5 | 46=>148 | 146=>190 | 51=>173 | n=>n,fun | 1=>1 | n=>n⟩
theorem A1L:Go.Proofs.Lays.n145 Tryz.prog AQW := {
 mixed:=by kernel_rfl,
 f145:=Tryz.func156.trans (congrArg some (by kernel_rfl)),
 f217:=Tryz.func215.trans (congrArg some (by kernel_rfl)),
 f219:=Tryz.func206.trans (congrArg some (by kernel_rfl)),
 f220:=Tryz.func191.trans (congrArg some (by kernel_rfl)),
 f224:=Tryz.func217.trans (congrArg some (by kernel_rfl)),
 f225:=Tryz.func216.trans (congrArg some (by kernel_rfl)),
 f266:=Tryz.func220.trans (congrArg some (by kernel_rfl)),
 f267:=Tryz.func218.trans (congrArg some (by kernel_rfl)),
 f314:=Tryz.func221.trans (congrArg some (by kernel_rfl)),
 t3:=Tryz.underlying3,
 a3:=Tryz.isAgg3,
 z3:=Tryz.sizeOf3,
 v3:=Tryz.zeroValue3,
 t4:=Tryz.underlying4,
 a4:=Tryz.isAgg4,
 z4:=Tryz.sizeOf4,
 v4:=Tryz.zeroValue4,
 t5:=Tryz.underlying5,
 a5:=Tryz.isAgg5,
 z5:=Tryz.sizeOf5,
 v5:=Tryz.zeroValue5,
 t9:=Tryz.underlying9,
 a9:=Tryz.isAgg9,
 z9:=Tryz.sizeOf9,
 v9:=Tryz.zeroValue9,
 t46:=Tryz.underlying148,
 a46:=Tryz.isAgg148,
 z46:=Tryz.sizeOf148,
 v46:=Tryz.zeroValue148,
 t51:=Tryz.underlying173,
 a51:=Tryz.isAgg173,
 z51:=Tryz.sizeOf173,
 v51:=Tryz.zeroValue173,
 t59:=Tryz.underlying156,
 a59:=Tryz.isAgg156,
 z59:=Tryz.sizeOf156,
 v59:=Tryz.zeroValue156,
 t146:=Tryz.underlying190,
 a146:=Tryz.isAgg190,
 z146:=Tryz.sizeOf190,
 v146:=Tryz.zeroValue190,
 g1:=by kernel_rfl }
structure GOk (G:Nat→AV):Prop where
 kw:KwG G
 mx : ∃ n,G 1 = .fptr 1 [[.int .i64 n]] 0 0
theorem AP5 {G:Nat→AV} {g:Gh} {h:Hp} {w:World} {n:Nat} {k:IntKind} {z:Int} (S:SimH (En G) g h w) (hn:G n = .fptr 1 [[.int k z]] 0 0):w.cell? ⟨n,0,none⟩=some (.int k z):=by
 have:=S.glob n
 rw [enG,hn] at this
 generalize hp:Value.pointer (some ⟨n,0,none⟩)=p at this
 cases this with
 | fptr k' xs i j cb co c e fz cv h1 h2 h3 h4 =>
   simp only [Value.pointer.injEq,Option.some.injEq,Addr.mk.injEq] at hp
   obtain ⟨rfl,hco,_⟩:=hp
   have h5:=h3 0 0 (by simp) (by simp)
   have h6:=h4 0 0 _ _ rfl rfl
   generalize cv 0 0=u at h5 h6
   cases h6
   simp only [World.cell?,S.fro _ _ h1]
   subst hco
   exact h5
def cutV (s:ByteArray):AV := .tup [.str ⟨(Lib.cut s.data.toList [91]).1.toArray⟩,.str ⟨(Lib.cut s.data.toList [91]).2.1.toArray⟩,.bool (Lib.cut s.data.toList [91]).2.2]
theorem ACF (G:Nat→AV) (hG:GOk G) (s:ByteArray) (h:Hp) (hl:s.size≤1048576):PCall (En G) 156 [.str s,.str ⟨#[91]⟩] h (cutV s):=by
 refine PCall.of_reads (cok 156 G (by kernel_rfl)) fun g w cargs S ha => ?_
 obtain ⟨hsz,hget⟩:=ha
 obtain ⟨cv0,cv1,rfl⟩ : ∃ a b,cargs = #[a,b]:=by
  obtain ⟨l⟩:=cargs
  match l,hsz with
  | [a,b],_=>exact ⟨a,b,rfl⟩
 obtain rfl:=(hget 0 _ cv0 rfl rfl).str_inv
 obtain rfl:=(hget 1 _ cv1 rfl rfl).str_inv
 obtain ⟨z,hz⟩:=hG.mx
 have hc:=AP5 S hz
 have:=Any.strings_Cut A1L s ⟨#[91]⟩ z w (by omega) hc
 refine ⟨_,?_,this⟩
 refine .tup _ _ rfl ?_
 intro i v cv h1 h2
 match i,h1,h2 with
 | 0,h1,h2=>simp at h1 h2; subst h1; subst h2; exact .str _ _
 | 1,h1,h2=>simp at h1 h2; subst h1; subst h2; exact .str _ _
 | 2,h1,h2=>simp at h1 h2; subst h1; subst h2; exact .bool _ _
def JV (s:ByteArray):Option (List UInt8 × UInt8) :=
 if 4≤s.data.toList.length then match s.data.toList.drop (s.data.toList.length - 3) with
  | [x,d,y]=>if (y == 93 && x == 91 && decide (48≤d.toNat) && decide (d.toNat < 56) && IB ⟨(s.data.toList.take (s.data.toList.length - 3)).toArray⟩)=true then some (s.data.toList.take (s.data.toList.length - 3),d) else none
  | _=>none
 else none
def elemV (o:Option (List UInt8 × UInt8)):AV:=match o with
 | some (a,d) => .tup [.str ⟨a.toArray⟩,.int .i64 ((d.toNat:Int) - 48),.bool true]
 | none => .tup [.str ⟨#[]⟩,.int .i64 0,.bool false]
theorem QZ {l:List UInt8} (h:IB ⟨l.toArray⟩=true):l≠[]∧∀ b∈l,b≠91:=by
 have hw:RN ⟨l.toArray⟩=true:=by
  unfold IB at h
  exact (Bool.and_eq_true_iff.1 (Bool.and_eq_true_iff.1 h).1).1
 unfold RN at hw
 obtain ⟨h1,h2⟩:=Bool.and_eq_true_iff.1 hw
 refine ⟨?_,?_⟩
 ·intro e; subst e; cases h1
 ·intro b hb e
  subst e
  have:=List.all_eq_true.1 h2 91 hb
  revert this; decide
theorem three {l:List UInt8} (h:3≤l.length) : ∃ a x d y,l=a ++ [x,d,y]:=by
 refine ⟨l.take (l.length - 3),?_⟩
 have h1:(l.drop (l.length - 3)).length=3:=by simp; omega
 match hm:l.drop (l.length - 3),h1 with
 | [x,d,y],_=>exact ⟨x,d,y,by rw [← hm,wB]⟩
theorem X9 {a:List UInt8} {x d y:UInt8} (ha:a≠[]):JV ⟨(a ++ [x,d,y]).toArray⟩=if (y == 93 && x == 91 && decide (48≤d.toNat) && decide (d.toNat < 56) && IB ⟨a.toArray⟩)=true then some (a,d) else none:=by
 have hl:0 < a.length:=List.length_pos_iff.2 ha
 unfold JV
 simp only
 rw [if_pos (by simp; omega)]
 have e:(a ++ [x,d,y]).length - 3=a.length:=by simp
 rw [e,List.drop_left,List.take_left]
theorem ACB (s:ByteArray):JV s=if ((Lib.cut s.data.toList [91]).2.2 && IB ⟨(Lib.cut s.data.toList [91]).1.toArray⟩)=true then match (Lib.cut s.data.toList [91]).2.1 with
  | [d,y]=>if (y == 93 && decide (48≤d.toNat) && decide (d.toNat < 56))=true then some ((Lib.cut s.data.toList [91]).1,d) else none
  | _=>none
 else none:=by
 obtain ⟨⟨l⟩⟩:=s
 have hocc : ∀ i,Lib.occAt l [91] i=true↔l[i]? = some 91:=by
  intro i
  unfold Lib.occAt
  rcases Nat.lt_or_ge i l.length with h | h
  ·rw [qC h,jU h]
   simp [List.isPrefixOf]
   exact eq_comm
  ·rw [List.drop_eq_nil_of_le h,List.getElem?_eq_none h]; simp [List.isPrefixOf]
 -- an element name of the reference's kind
 have main : ∀ a d,a≠[]→IB ⟨a.toArray⟩=true→l=a ++ [91,d,93]→Lib.cut l [91]=(a,[d,93],true):=by
  intro a d ha hn hl
  obtain ⟨_,hne⟩:=QZ hn
  have hi:Lib.index l [91]=(a.length:Int):=by
   refine Lib.index_first (by rw [hl]; simp) ((hocc _).2 (by rw [hl]; simp)) fun j hj => ?_
   rw [← Bool.not_eq_true,hocc,hl,List.getElem?_append_left hj,jU hj]
   intro e
   exact hne _ (List.getElem_mem hj) (Option.some.inj e)
  unfold Lib.cut
  rw [hi,if_pos (by omega),zG,hl,List.take_left,← List.drop_drop,List.drop_left]
  rfl
 show JV ⟨l.toArray⟩=_
 rcases hcase:JV ⟨l.toArray⟩ with _ | ⟨a,d⟩
 ·symm
  show (if _ then _ else none)=none
  simp only
  split
  ·rename_i hb
   rw [jV] at hb
   split
   ·rename_i d y hm
    split
    ·rename_i hd
     exfalso
     simp only [jV,beq_iff_eq,decide_eq_true_eq] at hd
     obtain ⟨⟨rfl,hd1⟩,hd2⟩:=hd
     obtain ⟨ha,_⟩:=QZ hb.2
     have hc:Lib.cut l [91]=((Lib.cut l [91]).1,[d,93],true):=by
      rw [← hm]; have:=hb.1; cases hcc:Lib.cut l [91] with
      | mk p q=>cases q with
        | mk q1 q2=>rw [hcc] at this; simp at this; subst this; rfl
     have hl:l=(Lib.cut l [91]).1 ++ [91,d,93]:=by
      generalize (Lib.cut l [91]).1=b at hc
      unfold Lib.cut at hc
      split at hc
      ·rename_i h0
       obtain ⟨i,hi⟩ : ∃ i:Nat,Lib.index l [91]=i:=⟨(Lib.index l [91]).toNat,by omega⟩
       rw [hi] at hc
       simp only [zG,Prod.mk.injEq,List.length_singleton] at hc
       rcases Lib.index_spec l [91] with ⟨h1,_⟩ | ⟨j,h1,_,h3,_⟩
       ·omega
       ·have hj:i=j:=by omega
        subst hj
        have h4:=(hocc i).1 h3
        have h5:i < l.length:=(List.getElem?_eq_some_iff.1 h4).1
        have h6:l[i]=91:=by rw [jU h5] at h4; exact Option.some.inj h4
        rw [← hc.1]
        calc l=l.take i ++ l.drop i:=(wB i l).symm
         _=l.take i ++ (l[i] :: l.drop (i+1)):=by rw [qC h5]
         _=l.take i ++ [91,d,93]:=by rw [h6,hc.2.1]
      ·simp at hc
     have:=X9 (x:=91) (d:=d) (y:=93) ha
     rw [← hl,hcase,if_pos (by simp [hb.2,hd1,hd2])] at this
     cases this
    ·rfl
   ·rfl
  ·rfl
 ·have h4:4≤l.length:=by
   unfold JV at hcase
   simp only at hcase
   split at hcase
   ·assumption
   ·cases hcase
  obtain ⟨b,x,d',y,rfl⟩:=three (show 3≤l.length by omega)
  have hb:b≠[]:=by intro e; subst e; simp at h4
  rw [X9 hb] at hcase
  split at hcase
  ·rename_i hc
   cases hcase
   simp only [jV,beq_iff_eq,decide_eq_true_eq] at hc
   obtain ⟨⟨⟨⟨rfl,rfl⟩,h1⟩,h2⟩,h3⟩:=hc
   simp only
   rw [main a d hb h3 rfl]
   simp [h3,h1,h2]
  ·cases hcase
end Go.Proofs.YtokehnfjjmpanaaGreatDoor.Cov
set_option linter.unusedSimpArgs false
set_option maxRecDepth 8000
namespace Go.Proofs.YtokehnfjjmpanaaGreatDoor.Cov
open Sm Bins Go.RowKit
open Bool renaming not_false→jC,not_true→jW,not_eq_true→qP,eq_iff_iff→qG
open List renaming length_take→zV,getElem?_eq_getElem→jU,map_cons→jF,map_nil→jD,append_nil→jE,getElem?_cons_zero→jZ,getElem?_cons_succ→zC,length_map→jM,getElem?_eq_none→zF,take_append_drop→wB,cons_append→zU,nil_append→zK
open Nat renaming le_refl→jL,le_of_ble_eq_true→jH,reduceEqDiff→jB,lt_or_ge→jT,add_zero→jI,zero_add→jG
open Option renaming getD_some→jA,getD_none→jJ
theorem ALY (l:List UInt8):(Lib.cut l [91]).1.length≤l.length:=by
 unfold Lib.cut
 split
 ·simp only [zV]; exact Nat.min_le_right _ _
 ·exact jL _
theorem ixl {l:List UInt8} {k:Nat} {b:UInt8} {i:Int} (hi:i=(k:Int)) (hb:l[k]? = some b):LD Tryz.prog 9 (.str ⟨l.toArray⟩) (.int .i64 i)=some (.int .u8 b.toNat):=by
 subst hi
 have hk:k < l.length:=(List.getElem?_eq_some_iff.1 hb).1
 have:=ix9 ⟨l.toArray⟩ k .i64 hk
 rw [this]
 have h2:(⟨l.toArray⟩:ByteArray)[k]'hk=l[k]:=rfl
 rw [h2]
 rw [jU hk] at hb
 rw [Option.some.inj hb]
theorem szl (l:List UInt8):(⟨l.toArray⟩:ByteArray).size=l.length:=rfl
theorem wrap_u8 {n:Int} (h0:0≤n) (h1:n < 256):IntKind.u8.wrap n=n:=by
 unfold IntKind.wrap; simp [IntKind.bits,IntKind.signed]; omega
theorem AFM (G:Nat→AV) (hG:GOk G) (s:ByteArray) (h:Hp) (hl:s.size≤1048576):PCall (En G) 171 [.str s] h (elemV (JV s)):=by
 refine acN Tryz.func171 rfl ?_
 show awp _ _ _ _ _ (EE _ [.tmp 2,.tmp 3,.tmp 4] _)
 simp -implicitDefEqProofs only [BC,A8,A7,AZ,BA,AC,AQ,AO,BD,AX,AL,AA,AY,AU,BO,BG,BM,GV,BH,BB,BV,BN,BF,jF,jD,jE,↓reduceIte,jB,jA,jC,enX,enP]
 refine (ACF G hG s h hl).use ?_
 have he:=ACB s
 have hal:=ALY s.data.toList
 unfold cutV
 generalize Lib.cut s.data.toList [91]=c at he hal ⊢
 obtain ⟨a,b,f⟩:=c
 have hal2:a.length≤s.size:=by simpa using hal
 simp -implicitDefEqProofs only [jZ,zC,BC,A8,A7,AZ,BA,BL,BX,CG,AC,AQ,AO,BD,AX,AL,AA,AY,BH,BB,I5,GH,IW,AB,FO,↓reduceIte,jB,jA,jC]
 cases f
 ·simp -implicitDefEqProofs only [BC,A8,BK,BJ,A7,CJ,NZ,DR,AZ,BA,BL,BX,CG,FY,AC,AQ,AO,BD,AX,AL,AA,EG,AY,AU,BG,BM,GV,BH,BB,CO,DK,↓reduceIte,jB,jA,jC]
  exact ⟨by rw [he]; rfl,trivial⟩
 simp -implicitDefEqProofs only [BL,BX,CG,EM,AC,AQ,AO,BD,AX,AL,AA,AY,BO,BH,BV,BN,jF,jD,jE,↓reduceIte,jB,jA,jW,jC]
 refine (O6 G hG.kw ⟨a.toArray⟩ h (by rw [szl]; omega)).use ?_
 simp -implicitDefEqProofs only [AZ,BL,BX,CG,EM,AC,AQ,AO,BD,AX,AL,AA,AY,AU,BM,BH,CO,DU,I5,AB,FO,↓reduceIte,jB,jA,jC]
 cases hn:IB ⟨a.toArray⟩
 ·simp -implicitDefEqProofs only [BC,A8,BK,BJ,A7,CJ,NZ,DR,AZ,BA,BL,BX,CG,FY,AC,AQ,AO,BD,AX,AL,AA,EG,AY,AU,BG,BM,GV,BH,BB,CO,DK,↓reduceIte,jB,jA,jC]
  exact ⟨by rw [he]; simp [hn]; rfl,trivial⟩
 simp -implicitDefEqProofs only [AZ,BL,BX,CG,EM,AC,AQ,AO,BD,AX,AL,AA,AY,AU,BG,BM,BH,CO,DU,BU,E5,AB,FD,↓reduceIte,jB,jA,jW,jC,enP,ln9,szl]
 refine IV (fun hb => ?_) (fun hb => ?_)
 ·simp -implicitDefEqProofs only [BC,A8,BK,BJ,A7,CJ,NZ,DR,AZ,BA,BL,BX,CG,FY,AC,AQ,AO,BD,AX,AL,AA,EG,AY,AU,BG,BM,GV,BH,BB,CO,DK,↓reduceIte,jB,jA,jC,hb]
  have hne : ∀ d y,b≠[d,y]:=by
   intro d y e; subst e; simp at hb
  have:JV s=none:=by
   rw [he]; split
   ·split
    ·rename_i hm; exact absurd hm (hne _ _)
    ·rfl
   ·rfl
  exact ⟨by rw [this]; rfl,trivial⟩
 have h2:b.length=2:=by simp at hb; omega
 match b,h2 with
 | [d,y],_ =>
   have i1:LD Tryz.prog 9 (.str ⟨[d,y].toArray⟩) (.int .i64 1)=some (.int .u8 y.toNat):=ixl (k:=1) rfl rfl
   have i0:LD Tryz.prog 9 (.str ⟨[d,y].toArray⟩) (.int .i64 0)=some (.int .u8 d.toNat):=ixl (k:=0) rfl rfl
   have he2:JV s=if (y == 93 && decide (48≤d.toNat) && decide (d.toNat < 56))=true then some (a,d) else none:=by
    rw [he]; simp [hn]
   clear he
   simp -implicitDefEqProofs only [AZ,BL,BX,CG,EM,AC,AQ,AO,BD,AX,AL,AA,AY,AU,BG,BM,BH,CO,DU,BU,KJ,AB,FD,↓reduceIte,jB,jA,jC,enP,hb,i1,i0]
   refine IV (fun hc => ?_) (fun hc => ?_)
   ·simp -implicitDefEqProofs only [BC,A8,BK,BJ,A7,CJ,NZ,DR,AZ,BA,BL,BX,CG,FY,AC,AQ,AO,BD,AX,AL,AA,EG,AY,AU,BG,BM,GV,BH,BB,CO,DK,↓reduceIte,jB,jA,jC,hc]
    have hy:(y == 93)=false:=by
     rw [← qP]; intro e; rw [beq_iff_eq] at e; subst e; simp at hc
    exact ⟨by rw [he2,hy]; rfl,trivial⟩
   have hy:(y == 93)=true:=by
    rw [beq_iff_eq,← UInt8.toNat_inj]
    simp at hc; show y.toNat=93; omega
   simp -implicitDefEqProofs only [AZ,BL,BX,CG,EM,AC,AQ,AO,BD,AX,AL,AA,AY,AU,BG,BM,BH,CO,DU,BU,KJ,AB,DF,↓reduceIte,jB,jA,jC,enP,hc,i0]
   refine IV (fun hd => ?_) (fun hd => ?_)
   ·simp -implicitDefEqProofs only [BC,A8,BK,BJ,A7,CJ,NZ,DR,AZ,BA,BL,BX,CG,FY,AC,AQ,AO,BD,AX,AL,AA,EG,AY,AU,BG,BM,GV,BB,CO,DK,↓reduceIte,jB,jA,jC,hd]
    have:decide (48≤d.toNat)=false:=by simp at hd ⊢; omega
    exact ⟨by rw [he2,this]; simp; rfl,trivial⟩
   have hd1:48≤d.toNat:=by simp at hd; omega
   simp -implicitDefEqProofs only [BJ,A7,AZ,BA,BL,BX,CG,EM,AC,AQ,AO,BD,AX,AL,AA,AY,AU,BG,BM,BH,CO,DU,BU,KJ,AB,FQ,↓reduceIte,jB,jA,jC,enP,hd,i0]
   refine CV (fun hf => ?_) (fun hf => ?_)
   ·simp -implicitDefEqProofs only [BC,A8,BK,A7,CJ,NZ,AZ,BA,AC,AQ,AO,BD,AX,AL,AA,AU,BG,BM,GV,BB,↓reduceIte,jB,jA,jC]
    have:decide (d.toNat < 56)=false:=by simp at hf ⊢; omega
    exact ⟨by rw [he2,this]; simp; rfl,trivial⟩
   have hd2:d.toNat < 56:=by simp at hf; omega
   simp -implicitDefEqProofs only [BC,BR,A7]
   refine EX (by kernel_rfl) ?_
   simp -implicitDefEqProofs only [FC,DV,CY,EC,DW,EP,G9,IJ,AEO,AEN,BK,A7,NZ,AC,AA,AY,AU,BG,BM,BU,PK,KJ,AB,IZ,↓reduceIte,jB,Nat.reduceAdd,jA,enP,AH4,i0,wrap_u8 (n:=(d.toNat:Int) - 48) (by omega) (by omega),wrap_i64 (n:=(d.toNat:Int) - 48) (by omega) (by omega)]
   exact ⟨by rw [he2]; simp [hy,hd1,hd2]; rfl,trivial⟩
theorem AA7 {s:ByteArray} {u:Nat} {h:Hp} (hu:u≤s.size):KG Tryz.prog h 9 (.str s) none (some (.int .i64 (u:Int))) none=some (.str (s.extract 0 u)):=by
 have:Tryz.prog.underlying 9=some .string:=by kernel_rfl
 simp [KG,this,JL,hu]
theorem ALO (a b:List UInt8):(⟨(a ++ b).toArray⟩:ByteArray).extract 0 a.length=⟨a.toArray⟩:=by
 ext1
 simp
set_option maxHeartbeats 1000000 in
theorem AMI (G:Nat→AV) (s:ByteArray) (h:Hp) (hl:s.size≤1099511627776):PCall (En G) 214 [.str s] h (elemV (JV s)):=by
 refine acN Tryz.func214 rfl ?_
 show awp _ _ _ _ _ (EE _ [.tmp 2,.tmp 3,.tmp 4] _)
 obtain ⟨⟨l⟩⟩:=s
 rw [szl] at hl
 rcases jT l.length 4 with h4 | h4
 ·have hd:decide ((l.length:Int) < 4)=true:=by simp; omega
  simp -implicitDefEqProofs only [BC,A8,BK,BJ,A7,CJ,NZ,DR,AZ,BA,BL,BX,CG,FY,AC,AQ,AO,BD,AX,AL,AA,EG,AY,AU,BG,BM,GV,BH,BB,CO,DK,BU,E5,AB,DF,BF,↓reduceIte,jB,jA,jC,enX,enP,ln9,szl,hd]
  have:JV ⟨l.toArray⟩=none:=by
   unfold JV; rw [if_neg]; simp; omega
  exact ⟨by rw [this]; rfl,trivial⟩
 obtain ⟨b,x,d,y,rfl⟩:=three (show 3≤l.length by omega)
 have hlen:(b ++ [x,d,y]).length=b.length+3:=by simp
 rw [hlen] at hl h4
 have hbl:0 < b.length:=by omega
 have hb:b≠[]:=List.length_pos_iff.1 hbl
 have he:=X9 (x:=x) (d:=d) (y:=y) hb
 generalize hn:IB ⟨b.toArray⟩=nm at he
 have i1:LD Tryz.prog 9 (.str ⟨(b ++ [x,d,y]).toArray⟩) (.int .i64 ((b.length:Int)+2))=some (.int .u8 y.toNat):=ixl (k:=b.length+2) (by omega) (by simp)
 have i2:LD Tryz.prog 9 (.str ⟨(b ++ [x,d,y]).toArray⟩) (.int .i64 ((b.length:Int)+1))=some (.int .u8 d.toNat):=ixl (k:=b.length+1) (by omega) (by simp)
 have i3:LD Tryz.prog 9 (.str ⟨(b ++ [x,d,y]).toArray⟩) (.int .i64 (b.length:Int))=some (.int .u8 x.toNat):=ixl (k:=b.length) rfl (by simp)
 have i4:=AA7 (s:=⟨(b ++ [x,d,y]).toArray⟩) (u:=b.length) (h:=h) (by rw [szl]; omega)
 rw [ALO] at i4
 have hsz:(⟨(b ++ [x,d,y]).toArray⟩:ByteArray).size=b.length+3:=by rw [szl,hlen]
 generalize (⟨(b ++ [x,d,y]).toArray⟩:ByteArray)=s at *
 have w1:IntKind.i64.wrap (((b.length+3:Nat):Int) - 1)=(b.length:Int)+2:=by rw [wrap_i64 (by omega) (by omega)]; omega
 have w2:IntKind.i64.wrap (((b.length+3:Nat):Int) - 2)=(b.length:Int)+1:=by rw [wrap_i64 (by omega) (by omega)]; omega
 have w3:IntKind.i64.wrap (((b.length+3:Nat):Int) - 3)=(b.length:Int):=by rw [wrap_i64 (by omega) (by omega)]; omega
 have hd8:d.toNat < 256:=d.toNat_lt
 have w4:IntKind.i64.wrap (d.toNat:Int)=(d.toNat:Int):=wrap_i64 (by omega) (by omega)
 have w5:IntKind.i64.wrap ((d.toNat:Int) - 48)=(d.toNat:Int) - 48:=wrap_i64 (by omega) (by omega)
 have ha:decide (((b.length+3:Nat):Int) < 4)=false:=by simp; omega
 simp -implicitDefEqProofs only [BC,A8,A7,AZ,BA,BL,BX,CG,EM,AC,AQ,AO,BD,AX,AL,AA,AY,AU,BG,BM,GV,BH,BB,CO,DU,BU,KJ,E5,AB,IZ,FD,DF,BF,↓reduceIte,jB,jA,jC,enX,enP,ln9,hsz,ha,w1,w2,w3,i1,i2,i3,i4]
 refine IV (fun hc => ?_) (fun hc => ?_)
 ·simp -implicitDefEqProofs only [BC,A8,BK,BJ,A7,CJ,NZ,DR,AZ,BA,BL,BX,CG,FY,AC,AQ,AO,BD,AX,AL,AA,EG,AY,AU,BG,BM,GV,BB,CO,DK,↓reduceIte,jB,jA,jC,hc]
  have hy:(y == 93)=false:=by
   rw [← qP]; intro e; rw [beq_iff_eq] at e; subst e; simp at hc
  exact ⟨by rw [he,hy]; simp; rfl,trivial⟩
 have hy:(y == 93)=true:=by
  rw [beq_iff_eq,← UInt8.toNat_inj]
  simp at hc; show y.toNat=93; omega
 simp -implicitDefEqProofs only [BJ,A7,AZ,BA,BL,BX,CG,EM,AC,AQ,AO,BD,AX,AL,AA,AY,AU,BG,BM,BH,CO,DU,BU,KJ,E5,AB,IZ,FD,BF,↓reduceIte,jB,jA,jC,enP,ln9,hsz,hc,w1,w2,w3,i1,i2,i3,i4]
 refine CV (fun hd => ?_) (fun hd => ?_)
 ·simp -implicitDefEqProofs only [BC,A8,BK,A7,CJ,NZ,AZ,BA,AC,AQ,AO,BD,AX,AL,AA,AU,BG,BM,GV,BB,↓reduceIte,jB,jA,jC]
  have hx:(x == 91)=false:=by
   rw [← qP]; intro e; rw [beq_iff_eq] at e; subst e; simp at hd
  exact ⟨by rw [he,hx]; simp; rfl,trivial⟩
 have hx:(x == 91)=true:=by
  rw [beq_iff_eq,← UInt8.toNat_inj]
  simp at hd; show x.toNat=91; omega
 simp -implicitDefEqProofs only [Option.map_some,Option.map_none,BC,A8,BR,A7,AZ,BA,BL,BX,CG,AC,AQ,AO,BD,AX,AL,AA,AY,AU,BG,BH,BB,BU,PK,NK,KJ,E5,AB,IZ,DF,BF,↓reduceIte,jB,jA,jC,enP,ln9,AH4,hsz,w1,w2,w3,i1,i2,i3,i4,w4,w5]
 refine IV (fun hf => ?_) (fun hf => ?_)
 ·simp -implicitDefEqProofs only [BC,A8,BK,BJ,A7,CJ,NZ,DR,AZ,BA,BL,BX,CG,FY,AC,AQ,AO,BD,AX,AL,AA,EG,AY,AU,BG,BM,GV,BH,BB,CO,DK,↓reduceIte,jB,jA,jC,hf]
  have:decide (48≤d.toNat)=false:=by simp at hf ⊢; omega
  exact ⟨by rw [he,this]; simp; rfl,trivial⟩
 have hd1:48≤d.toNat:=by simp at hf; omega
 simp -implicitDefEqProofs only [AZ,BL,BX,CG,EM,AC,AQ,AO,BD,AX,AL,AA,AY,AU,BG,BM,BH,CO,DU,BU,AB,FQ,↓reduceIte,jB,jA,jC,enP,hf]
 refine IV (fun hf => ?_) (fun hf => ?_)
 ·simp -implicitDefEqProofs only [BC,A8,BK,BJ,A7,CJ,NZ,DR,AZ,BA,BL,BX,CG,FY,AC,AQ,AO,BD,AX,AL,AA,EG,AY,AU,BG,BM,GV,BB,CO,DK,↓reduceIte,jB,jA,jC,hf]
  have:decide (d.toNat < 56)=false:=by simp at hf ⊢; omega
  exact ⟨by rw [he,this]; simp; rfl,trivial⟩
 have hd2:d.toNat < 56:=by simp at hf; omega
 simp -implicitDefEqProofs only [BL,BX,CG,EM,AC,AQ,AO,BD,AX,AL,AA,AY,BO,BH,BV,BN,jF,jD,jE,↓reduceIte,jB,jA,jC,hf]
 refine (QA G ⟨b.toArray⟩ h).use ?_
 simp -implicitDefEqProofs only [BJ,A7,AZ,BA,BL,BX,CG,EM,AC,AQ,AO,BD,AX,AL,AA,AY,AU,BM,CO,DU,I5,AB,FO,↓reduceIte,jB,jA,jC,hn]
 cases nm
 ·simp -implicitDefEqProofs only [BC,A8,BK,A7,CJ,NZ,DR,AZ,BA,AC,AQ,AO,BD,AX,AL,AA,AU,BG,BM,GV,BB,↓reduceIte,jB,jA,jC]
  exact ⟨by rw [he]; simp; rfl,trivial⟩
 ·simp -implicitDefEqProofs only [BC,A8,BR,BK,A7,NZ,DX,AZ,BA,AC,AQ,AO,BD,AX,AL,AA,AY,AU,BM,BH,BB,↓reduceIte,jB,jA,jW,jC]
  exact ⟨by rw [he]; simp [hy,hx,hd1,hd2]; rfl,trivial⟩
def IX (s:ByteArray):Bool:=(JV s).isSome || IB s
theorem ACC (o:Option (List UInt8 × UInt8)) : ∃ a n,elemV o = .tup [.str a,.int .i64 n,.bool o.isSome]:=by
 cases o with
 | none=>exact ⟨_,_,rfl⟩
 | some x=>exact ⟨_,_,rfl⟩
theorem AJM (G:Nat→AV) (hG:GOk G) (s:ByteArray) (h:Hp) (hl:s.size≤1048576):PCall (En G) 132 [.str s] h (.bool (IX s)):=by
 refine acN Tryz.func132 rfl ?_
 show awp _ _ _ _ _ (EE _ [.tmp 2] _)
 simp -implicitDefEqProofs only [BC,A8,A7,AZ,BA,AC,AQ,AO,BD,AX,AL,AA,AY,AU,BO,BM,BH,BB,BV,BN,BF,jF,jD,jE,↓reduceIte,jB,jA,jC,enX,enP]
 refine (AFM G hG s h hl).use ?_
 obtain ⟨a,n,e⟩:=ACC (JV s)
 rw [e]
 simp -implicitDefEqProofs only [jZ,zC,BC,A8,A7,AZ,BA,BL,BX,CG,AC,AQ,AO,BD,AX,AL,AA,AY,BH,BB,GH,IW,AB,↓reduceIte,jB,jA,jC]
 cases hs:(JV s).isSome
 ·simp -implicitDefEqProofs only [BL,BX,CG,EM,AC,AQ,AO,BD,AX,AL,AA,AY,BO,BH,BV,BN,BF,jF,jD,jE,↓reduceIte,jB,jA,jC]
  refine (O6 G hG.kw s h (by omega)).use ?_
  simp -implicitDefEqProofs only [BK,A7,CU,AZ,BA,AC,AQ,AO,BD,AX,AL,AA,AY,AU,BM,BB,CO,DU,↓reduceIte,jB,jA,jC]
  exact ⟨by unfold IX; rw [hs]; rfl,trivial⟩
 ·simp -implicitDefEqProofs only [BK,A7,CU,AZ,BA,BL,BX,CG,FY,AC,AQ,AO,BD,AX,AL,AA,EG,AY,AU,BM,BB,CO,DK,↓reduceIte,jB,jA,jC]
  exact ⟨by unfold IX; rw [hs]; rfl,trivial⟩
theorem AM5 (G:Nat→AV) (s:ByteArray) (h:Hp) (hl:s.size≤1048576):PCall (En G) 204 [.str s] h (.bool (IX s)):=by
 refine acN Tryz.func204 rfl ?_
 show awp _ _ _ _ _ (EE _ [.tmp 2] _)
 simp -implicitDefEqProofs only [BC,A8,A7,AZ,BA,AC,AQ,AO,BD,AX,AL,AA,AY,AU,BO,BM,BH,BB,BV,BN,BF,jF,jD,jE,↓reduceIte,jB,jA,jC,enX,enP]
 refine (AMI G s h (by omega)).use ?_
 obtain ⟨a,n,e⟩:=ACC (JV s)
 rw [e]
 simp -implicitDefEqProofs only [jZ,zC,BC,A8,A7,AZ,BA,BL,BX,CG,AC,AQ,AO,BD,AX,AL,AA,AY,BH,BB,GH,IW,AB,↓reduceIte,jB,jA,jC]
 cases hs:(JV s).isSome
 ·simp -implicitDefEqProofs only [BL,BX,CG,EM,AC,AQ,AO,BD,AX,AL,AA,AY,BO,BH,BV,BN,BF,jF,jD,jE,↓reduceIte,jB,jA,jC]
  refine (QA G s h).use ?_
  simp -implicitDefEqProofs only [BK,A7,CU,AZ,BA,AC,AQ,AO,BD,AX,AL,AA,AY,AU,BM,BB,CO,DU,↓reduceIte,jB,jA,jC]
  exact ⟨by unfold IX; rw [hs]; rfl,trivial⟩
 ·simp -implicitDefEqProofs only [BK,A7,CU,AZ,BA,BL,BX,CG,FY,AC,AQ,AO,BD,AX,AL,AA,EG,AY,AU,BM,BB,CO,DK,↓reduceIte,jB,jA,jC]
  exact ⟨by unfold IX; rw [hs]; rfl,trivial⟩
def TC (s:ByteArray):Bool:=s.toList == (⟨#[]⟩:ByteArray).toList
def TW (e:Ex):Bool:=decide (e.op < 1) || decide (e.op > 25)
def ACR (e:Ex):Bool:=((e.op == 1) && (decide (e.n < 0) || decide (e.n > 65535))) || (!(e.op == 1) && !(e.n == 0))
def ZA (e:Ex):Bool:=(!J8 e.op && !TC e.name) || !VP e.op e.args.length
def WU (e:Ex):Bool:=((e.op == 2) && !IX e.name) || (((e.op == 3) || (e.op == 24)) && !IB e.name)
def I4 (e:Ex):Int:=if TW e then 1 else if ACR e then 1 else if ZA e then 1 else if WU e then 7 else 0
theorem AMV (G:Nat→AV) (hG:GOk G) (e:Ex) (h:Hp) (hl:e.name.size≤1048576):PCall (En G) 89 [.agg (CW e)] h (.int .i64 (I4 e)):=by
 refine ACalls.pure0 rfl ?_
 refine acN Tryz.func89 rfl ?_
 show awp _ _ _ _ _ (EE _ [.tmp 2] _)
 simp -implicitDefEqProofs only [BC,A8,A7,AZ,BA,BL,BX,CG,AC,AQ,AO,BD,AX,AL,AA,AY,AU,BG,BH,BB,FN,BP,BU,BI,BZ,AB,DJ,BF,↓reduceIte,jB,jI,jA,jC,enP,GU,bxE,EH ag3,JE]
 refine QP (fun F H=>F 3 = .bool (J8 e.op)∧F 1 = .ptr h.length 0 0∧H=h ++ [.live 4 [CW e]]) ?_ ?_
 ·cases b2:(e.op == 2) <;> cases b3:(e.op == 3)
  all_goals
   simp -implicitDefEqProofs only [AZ,BA,BL,BX,CG,EM,FY,AC,AQ,AO,BD,AX,AL,AA,EG,AY,AU,BG,BM,BH,BB,CO,DK,DU,BP,BU,BI,AB,DJ,↓reduceIte,jB,jI,jA,jC,enP,GU,b2,b3,EH ag3,JE]
   exact ⟨by simp [J8,b2,b3],trivial,trivial⟩
 rintro F H ⟨f3,f1,rfl⟩
 simp -implicitDefEqProofs only [BC,CB,A8,A7,AZ,BL,BX,CG,AC,AQ,AO,BD,AX,AL,AA,AY,AU,BG,BH,BP,BU,BI,AB,DF,↓reduceIte,jI,jA,jC,enP,GU,f1,f3,EH ag3,JE]
 refine QP (fun F H=>F 17 = .bool (TW e)∧F 3 = .bool (J8 e.op)∧F 1 = .ptr h.length 0 0∧H=h ++ [.live 4 [CW e]]) ?_ ?_
 ·cases b2:decide (e.op < 1)
  all_goals
   simp -implicitDefEqProofs only [AZ,BA,BL,BX,CG,EM,FY,AC,AQ,AO,BD,AX,AL,AA,EG,AY,AU,BG,BM,BB,CO,DK,DU,BP,BU,BI,AB,EY,↓reduceIte,jB,jI,jA,jC,enP,GU,b2,f1,f3,EH ag3,JE]
   exact ⟨by simp [TW,b2],trivial,trivial,trivial⟩
 clear f1 f3
 rintro F H ⟨f17,f3,f1,rfl⟩
 simp -implicitDefEqProofs only [BJ,A7,AY,f17]
 refine CV (fun ho => ?_) (fun ho => ?_)
 ·simp -implicitDefEqProofs only [BC,A8,BK,A7,CJ,D5,CU,AZ,BA,AC,AQ,AO,BD,AX,AL,AA,AU,BG,BB,↓reduceIte,jA,jC]
  exact ⟨by unfold I4; rw [if_pos ho],_,rfl⟩
 simp -implicitDefEqProofs only [BC,A8,AZ,BL,BX,CG,AC,AQ,AO,BD,AX,AL,AA,AY,AU,BG,BH,BP,BU,BI,AB,DJ,↓reduceIte,jI,jA,jC,enP,GU,f1,f3,EH ag3,JE,X8]
 refine QP (fun F H=>F 26 = .bool (ACR e)∧F 3 = .bool (J8 e.op)∧F 1 = .ptr h.length 0 0∧H=h ++ [.live 4 [CW e]]) ?_ ?_
 ·cases b1:(e.op == 1) <;> cases b2:decide (e.n < 0) <;> cases b3:decide (e.n > 65535) <;> cases b4:(e.n == 0)
  all_goals
   simp -implicitDefEqProofs only [AZ,BA,BL,BX,CG,F8,EM,JA,FY,VW,AC,AQ,AO,BD,AX,AL,AA,EG,AY,AU,BG,BM,BH,BB,CO,DK,DU,BP,BU,BI,AB,FD,DF,EY,↓reduceIte,jB,jI,jG,jA,jW,jC,enP,GU,Y0,bne,b1,b2,b3,b4,f1,f3,EH ag3,JE,X8]
   exact ⟨by simp [ACR,b1,b2,b3,b4],trivial,trivial,trivial⟩
 clear f1 f3 f17
 rintro F H ⟨f26,f3,f1,rfl⟩
 simp -implicitDefEqProofs only [BJ,A7,AY,f26]
 refine CV (fun hn => ?_) (fun hn => ?_)
 ·simp -implicitDefEqProofs only [BC,A8,BK,A7,CJ,D5,CU,AZ,BA,AC,AQ,AO,BD,AX,AL,AA,AU,BG,BB,↓reduceIte,jA,jC]
  exact ⟨by unfold I4; rw [if_neg (by simp [ho]),if_pos hn],_,rfl⟩
 simp -implicitDefEqProofs only [BC,A8,AZ,BL,BX,CG,AC,AQ,AO,BD,AX,AL,AA,AY,BH,I5,AB,FO,↓reduceIte,jA,jC,f1,f3,EH ag9,O9]
 refine QP (fun F H=>F 50 = .bool (ZA e)∧F 3 = .bool (J8 e.op)∧F 1 = .ptr h.length 0 0∧H=h ++ [.live 4 [CW e]]) ?_ ?_
 ·cases bm:J8 e.op <;> cases b5:TC e.name
  all_goals
   have b6:=b5
   unfold TC at b6
   simp -implicitDefEqProofs only [AZ,BA,BL,BX,CG,F8,EM,JA,FY,AC,AQ,AO,BD,AX,AL,AA,EG,AY,AU,BO,BM,GV,BH,BB,CO,DK,DU,BP,BU,BI,BV,BN,AB,ACQ,jF,jD,jE,↓reduceIte,jB,jG,jA,jW,jC,enP,KO,bne,bm,b6,f1,f3,EH ag9,O9,ldE]
  ·exact ⟨by simp [ZA,bm,b5],trivial,trivial,trivial⟩
  all_goals
   refine (AC7 G e _).use ?_
   simp -implicitDefEqProofs only [AZ,BA,BL,BX,CG,EM,AC,AQ,AO,BD,AX,AL,AA,AY,AU,BM,BB,CO,DU,I5,AB,FO,↓reduceIte,jB,jA,jC,bne,bm,f1,f3]
   exact ⟨by simp [ZA,bm,b5],trivial,trivial,trivial⟩
 clear f1 f3 f26
 rintro F H ⟨f50,f3,f1,rfl⟩
 simp -implicitDefEqProofs only [BJ,A7,AY,f50]
 refine CV (fun hs => ?_) (fun hs => ?_)
 ·simp -implicitDefEqProofs only [BC,A8,BK,A7,CJ,D5,CU,AZ,BA,AC,AQ,AO,BD,AX,AL,AA,AU,BG,BB,↓reduceIte,jA,jC]
  exact ⟨by unfold I4; rw [if_neg (by simp [ho]),if_neg (by simp [hn]),if_pos hs],_,rfl⟩
 simp -implicitDefEqProofs only [BC,A8,AZ,BL,BX,CG,AC,AQ,AO,BD,AX,AL,AA,AY,AU,BG,BH,BP,BU,BI,AB,DJ,↓reduceIte,jI,jA,jC,enP,GU,f1,f3,EH ag9,EH ag3,JE,O9]
 have fin : ∀ b,WU e=b→I4 e=if b then 7 else 0:=by
  intro b hb
  unfold I4; rw [if_neg (by simp [ho]),if_neg (by simp [hn]),if_neg (by simp [hs]),hb]
 cases b2:(e.op == 2)
 ·simp -implicitDefEqProofs only [AZ,BL,BX,CG,EM,JA,AC,AQ,AO,BD,AX,AL,AA,EG,AY,AU,BG,BM,BH,CO,DU,BP,BU,BI,AB,DJ,↓reduceIte,jB,jI,jA,jC,enP,GU,b2,f1,f3,EH ag9,EH ag3,JE,O9]
  cases b3:(e.op == 3) <;> cases b4:(e.op == 24)
  all_goals
   simp -implicitDefEqProofs only [BC,A8,BR,BK,BJ,A7,EK,CU,DX,AZ,BA,BL,BX,CG,F8,EM,JA,FY,AC,AQ,AO,BD,AX,AL,AA,EG,AY,AU,BO,BG,BM,BH,BB,CO,DK,DU,BP,BU,BI,BV,BN,AB,DJ,jF,jD,jE,↓reduceIte,jB,jI,jG,jA,jC,enP,GU,KO,b3,b4,f1,f3,EH ag9,EH ag3,JE,O9]
  ·exact ⟨by rw [fin false (by simp [WU,b2,b3,b4])]; rfl,_,rfl⟩
  all_goals
   refine (O6 G hG.kw e.name _ (by omega)).use ?_
   cases bi:IB e.name
   ·simp -implicitDefEqProofs only [BC,A8,BK,BJ,A7,CJ,D5,CU,DR,AZ,BA,BL,BX,CG,F8,EM,AC,AQ,AO,BD,AX,AL,AA,AY,AU,BG,BM,BB,CO,DK,DU,I5,AB,FO,↓reduceIte,jB,jA,jC]
    exact ⟨by rw [fin true (by simp [WU,b2,b3,b4,bi])]; rfl,_,rfl⟩
   ·simp -implicitDefEqProofs only [BC,A8,BR,BK,BJ,A7,EK,CU,DX,AZ,BA,BL,BX,CG,F8,EM,AC,AQ,AO,BD,AX,AL,AA,AY,AU,BG,BM,BB,CO,DK,DU,I5,AB,FO,↓reduceIte,jB,jA,jW,jC]
    exact ⟨by rw [fin false (by simp [WU,b2,b3,b4,bi])]; rfl,_,rfl⟩
 ·have e2:e.op=2:=by simpa using b2
  simp -implicitDefEqProofs only [BL,BX,CG,F8,AC,AQ,AO,BD,AX,AL,AA,AY,BO,BP,BI,BV,BN,AB,jF,jD,jE,↓reduceIte,jB,jG,jA,jC,enP,KO,b2,f1,f3,EH ag9,EH ag3,JE,O9]
  refine (AJM G hG e.name _ hl).use ?_
  cases bi:IX e.name
  ·simp -implicitDefEqProofs only [BC,A8,BK,BJ,A7,CJ,D5,CU,DR,AZ,BA,BL,BX,CG,F8,FY,VW,AC,AQ,AO,BD,AX,AL,AA,EG,AY,AU,BG,BM,BH,BB,CO,DK,I5,AB,FO,↓reduceIte,jB,jA,jC]
   exact ⟨by rw [fin true (by simp [WU,b2,bi])]; rfl,_,rfl⟩
  ·simp -implicitDefEqProofs only [BC,A8,BR,BK,BJ,A7,EK,CU,DX,AZ,BA,BL,BX,CG,F8,EM,JA,AC,AQ,AO,BD,AX,AL,AA,EG,AY,AU,BG,BM,BH,BB,CO,DK,DU,BP,BU,I5,BI,AB,DJ,FO,↓reduceIte,jB,jI,jA,jW,jC,enP,GU,f1,EH ag3,JE,e2,Int.reduceBEq]
   exact ⟨by rw [fin false (by simp [WU,e2,bi])]; rfl,_,rfl⟩
def ACS (e:Ex):Bool:=TW e || decide (e.n < 0) || decide (e.n > 65535) || (!(e.n == 0) && !(e.op == 1)) || (!TC e.name && !J8 e.op)
def AIF (op:Int) (n:Nat):Bool:=((op == 23) && (decide ((n:Int) < 3) || decide ((n:Int) > 33) || ((n:Int) % 2 == 0))) || (!(op == 23) && !((n:Int) == arity op))
theorem AT7 (op:Int) (n:Nat):AIF op n = !VP op n:=by
 unfold AIF VP
 rcases hc:(op == 23) with _ | _
 ·simp
 ·have h1:decide ((n:Int) < 3) = !decide ((n:Int)≥3):=by rw [qG]; simp
  have h2:decide ((n:Int) > 33) = !decide ((n:Int)≤33):=by rw [qG]; simp
  have h3:((n:Int) % 2 == 0) = !((n:Int) % 2 == 1):=by rw [qG]; simp; omega
  rw [h1,h2,h3]
  cases ((n:Int) % 2 == 1) <;> cases decide ((n:Int)≥3) <;> cases decide ((n:Int)≤33) <;> rfl
theorem AT8 (e:Ex):(ACS e || AIF e.op e.args.length)=(TW e || ACR e || ZA e):=by
 rw [AT7]
 unfold ACS ACR ZA
 rcases h1:(e.op == 1) with _ | _
 ·rcases h2:(e.n == 0) with _ | _
  ·simp
  ·have h3:decide (e.n < 0)=false:=by simp at h2 ⊢; omega
   have h4:decide (e.n > 65535)=false:=by simp at h2 ⊢; omega
   rw [h3,h4]
   cases TW e <;> cases TC e.name <;> cases J8 e.op <;> cases VP e.op e.args.length <;> rfl
 ·cases TW e <;> cases TC e.name <;> cases J8 e.op <;> cases VP e.op e.args.length <;> cases decide (e.n < 0) <;> cases decide (e.n > 65535) <;> cases (e.n == 0) <;> rfl
theorem YS (e:Ex):I4 e=if ACS e then 1 else if AIF e.op e.args.length then 1 else if WU e then 7 else 0:=by
 have:=AT8 e
 unfold I4
 revert this
 cases ACS e <;> cases AIF e.op e.args.length <;> cases TW e <;> cases ACR e <;> cases ZA e <;> simp
set_option maxHeartbeats 1000000 in
theorem AMA (G:Nat→AV) (e:Ex) (h:Hp) (hl:e.name.size≤1048576):PCall (En G) 179 [.agg (CW e)] h (.int .i64 (I4 e)):=by
 refine ACalls.pure0 rfl ?_
 refine acN Tryz.func179 rfl ?_
 show awp _ _ _ _ _ (EE _ [.tmp 2] _)
 simp -implicitDefEqProofs only [BC,A8,A7,AZ,BA,BL,BX,CG,AC,AQ,AO,BD,AX,AL,AA,AY,AU,BG,BH,BB,FN,BP,BU,BI,BZ,AB,DF,BF,↓reduceIte,jB,jI,jA,jC,enP,GU,bxE,EH ag3,JE]
 refine QP (fun F H=>F 42 = .bool (ACS e)∧F 1 = .ptr h.length 0 0∧H=h ++ [.live 4 [CW e]]) ?_ ?_
 ·cases b1:decide (e.op < 1)
  case true =>
   simp -implicitDefEqProofs only [AZ,BA,BL,BX,CG,FY,VW,AC,AQ,AO,BD,AX,AL,AA,EG,AY,AU,BM,BH,CO,DK,↓reduceIte,jB,jA,jC,b1]
   exact ⟨by simp [ACS,TW,b1],trivial,trivial⟩
  simp -implicitDefEqProofs only [AZ,BL,BX,CG,EM,AC,AQ,AO,BD,AX,AL,AA,AY,AU,BG,BM,BH,CO,DU,BP,BU,BI,AB,EY,↓reduceIte,jB,jI,jA,jC,enP,GU,b1,EH ag3,JE,X8]
  cases b2:decide (e.op > 25)
  case true =>
   simp -implicitDefEqProofs only [AZ,BA,BL,BX,CG,FY,VW,AC,AQ,AO,BD,AX,AL,AA,EG,AY,AU,BM,BH,CO,DK,↓reduceIte,jB,jA,jC,b2]
   exact ⟨by simp [ACS,TW,b2],trivial,trivial⟩
  simp -implicitDefEqProofs only [AZ,BL,BX,CG,EM,AC,AQ,AO,BD,AX,AL,AA,AY,AU,BG,BM,BH,CO,DU,BP,BU,BI,AB,DF,↓reduceIte,jB,jG,jA,jC,enP,Y0,b2,EH ag3,JE,X8]
  have bO:TW e=false:=by unfold TW; rw [b1,b2]; rfl
  cases b3:decide (e.n < 0)
  case true =>
   simp -implicitDefEqProofs only [AZ,BA,BL,BX,CG,FY,VW,AC,AQ,AO,BD,AX,AL,AA,EG,AY,AU,BM,BH,CO,DK,↓reduceIte,jB,jA,jC,b3]
   exact ⟨by simp only [ACS,b3]; simp,trivial,trivial⟩
  simp -implicitDefEqProofs only [AZ,BL,BX,CG,EM,AC,AQ,AO,BD,AX,AL,AA,AY,AU,BG,BM,BH,CO,DU,BP,BU,BI,AB,EY,↓reduceIte,jB,jG,jA,jC,enP,Y0,b3,EH ag3,JE,X8]
  cases b4:decide (e.n > 65535)
  case true =>
   simp -implicitDefEqProofs only [AZ,BA,BL,BX,CG,FY,VW,AC,AQ,AO,BD,AX,AL,AA,EG,AY,AU,BM,BH,CO,DK,↓reduceIte,jB,jA,jC,b4]
   exact ⟨by simp only [ACS,b4]; simp,trivial,trivial⟩
  simp -implicitDefEqProofs only [BL,BX,CG,EM,AC,AQ,AO,BD,AX,AL,AA,AY,AU,BG,BH,BP,BU,BI,AB,FD,↓reduceIte,jB,jG,jA,jC,enP,Y0,b4,bne,EH ag3,EH ag9,JE,X8,O9]
  have fin : ∀ b,((!(e.n == 0) && !(e.op == 1)) || (!TC e.name && !J8 e.op))=b→ACS e=b:=by
   intro b hb
   unfold ACS; rw [bO,b3,b4]; simpa using hb
  cases b5:(e.n == 0) <;> cases b6:(e.op == 1) <;> cases b7:TC e.name
  all_goals
   have b8:=b7
   unfold TC at b8
   simp -implicitDefEqProofs only [AZ,BA,BL,BX,CG,F8,EM,JA,FY,VW,AC,AQ,AO,BD,AX,AL,AA,EG,AY,AU,BO,BG,BM,GV,BH,CO,DK,DU,BP,BU,BI,BV,BN,AB,FD,ACQ,jF,jD,jE,↓reduceIte,jB,jI,jG,jA,jW,jC,enP,GU,KO,bne,b5,b6,b8,EH ag3,EH ag9,JE,X8,O9]
  all_goals first
   | exact ⟨by rw [fin _ rfl]; simp [b5,b6,b7],trivial,trivial⟩
   | refine (U8 G e.op _).use ?_
     simp -implicitDefEqProofs only [AZ,BA,BL,BX,CG,F8,EM,AC,AQ,AO,BD,AX,AL,AA,AY,AU,BM,CO,DK,DU,I5,AB,FO,↓reduceIte,jB,jA,jC]
     exact ⟨by rw [fin _ rfl]; simp [b5,b6,b7],trivial,trivial⟩
 rintro F H ⟨f42,f1,rfl⟩
 simp -implicitDefEqProofs only [BJ,A7,AY,f42]
 refine CV (fun ho => ?_) (fun ho => ?_)
 ·simp -implicitDefEqProofs only [BC,A8,BK,A7,CJ,CU,AZ,BA,AC,AQ,AO,BD,AX,AL,AA,AU,BG,BB,↓reduceIte,jA,jC]
  exact ⟨by rw [YS,if_pos ho],_,rfl⟩
 simp -implicitDefEqProofs only [BC,A8,BR,A7,AZ,BA,BL,BX,CG,AC,AQ,AO,BD,AX,AL,AA,AY,AU,BG,BH,BB,BP,BU,BI,E5,AB,DJ,↓reduceIte,jB,jI,jG,jA,jC,enP,TT,GU,JW,f1,EH ag3,EH QU,JE,SB,jM]
 generalize hn:e.args.length=n
 have hm:(n:Int).tmod 2=(n:Int) % 2:=Int.tmod_eq_emod_of_nonneg (by omega)
 have br:G8 Tryz.prog 3 .rem (.int .i64 (n:Int)) (.int .i64 2)=some (.int .i64 ((n:Int) % 2)):=by rw [VE _ _ _ _ _ (by decide),hm]
 refine QP (fun F H=>F 73 = .bool (AIF e.op n)∧F 1 = .ptr h.length 0 0∧H=h ++ [.live 4 [CW e]]) ?_ ?_
 ·cases b1:(e.op == 23)
  ·simp -implicitDefEqProofs only [AZ,BL,BX,CG,F8,EM,JA,VW,AC,AQ,AO,BD,AX,AL,AA,EG,AY,AU,BO,BG,BM,BH,CO,DU,BP,BU,BI,BV,BN,AB,FD,jF,jD,jE,↓reduceIte,jB,jI,jA,jC,enP,GU,bne,b1,f1,EH ag3,JE]
   refine (ANR G e.op _).use ?_
   simp -implicitDefEqProofs only [AZ,BA,BL,BX,CG,F8,EM,AC,AQ,AO,BD,AX,AL,AA,AY,AU,BM,CO,DK,DU,BU,AB,FD,↓reduceIte,jB,jA,jC,enP,bne]
   exact ⟨by unfold AIF; rw [b1]; simp,f1,trivial⟩
  ·cases b2:decide ((n:Int) < 3) <;> cases b3:decide ((n:Int) > 33) <;> cases b4:((n:Int) % 2 == 0)
   all_goals
    simp -implicitDefEqProofs only [AZ,BA,BL,BX,CG,F8,EM,JA,FY,VW,AC,AQ,AO,BD,AX,AL,AA,EG,AY,AU,BG,BM,BH,CO,DK,DU,BP,BU,BI,AB,DJ,FD,DF,EY,↓reduceIte,jB,jI,jA,jW,jC,enP,GU,bne,b1,b2,b3,b4,br,f1,EH ag3,JE]
    exact ⟨by unfold AIF; rw [b1,b2,b3,b4]; simp,trivial,trivial⟩
 clear f1 f42
 rintro F H ⟨f73,f1,rfl⟩
 simp -implicitDefEqProofs only [BJ,A7,AY,f73]
 subst hn
 refine CV (fun hs => ?_) (fun hs => ?_)
 ·simp -implicitDefEqProofs only [BC,A8,BK,A7,CJ,CU,AZ,BA,AC,AQ,AO,BD,AX,AL,AA,AU,BG,BB,↓reduceIte,jA,jC]
  exact ⟨by rw [YS,if_neg (by simp [ho]),if_pos hs],_,rfl⟩
 simp -implicitDefEqProofs only [BC,A8,BR,A7,AZ,BL,BX,CG,AC,AQ,AO,BD,AX,AL,AA,AY,AU,BG,BH,BP,BU,BI,AB,DJ,↓reduceIte,jI,jA,jC,enP,GU,f1,EH ag3,EH ag9,JE,O9]
 have fin : ∀ b,WU e=b→I4 e=if b then 7 else 0:=by
  intro b hb
  rw [YS,if_neg (by simp [ho]),if_neg (by simp [hs]),hb]
 cases b2:(e.op == 2)
 ·simp -implicitDefEqProofs only [AZ,BL,BX,CG,EM,JA,AC,AQ,AO,BD,AX,AL,AA,EG,AY,AU,BO,BM,BH,CO,DU,BP,BI,BV,BN,AB,jF,jD,jE,↓reduceIte,jB,jI,jA,jC,enP,GU,b2,f1,EH ag9,EH ag3,JE,O9]
  refine (U8 G e.op _).use ?_
  cases bm:J8 e.op
  ·have hv:WU e=false:=by
    unfold J8 at bm; simp only [Bool.or_eq_false_iff] at bm
    simp [WU,bm.1.1,bm.1.2,bm.2]
   simp -implicitDefEqProofs only [BC,A8,BR,BK,BJ,A7,CU,DX,AZ,BA,BL,BX,CG,EM,JA,AC,AQ,AO,BD,AX,AL,AA,EG,AY,AU,BG,BM,BH,BB,CO,DU,↓reduceIte,jB,jA,jC]
   exact ⟨by rw [fin false hv]; rfl,_,rfl⟩
  have hv:WU e = !IB e.name:=by
   unfold J8 at bm; rw [b2] at bm; simp only [Bool.false_or] at bm
   unfold WU; rw [b2,bm]; simp
  simp -implicitDefEqProofs only [BL,BX,CG,F8,EM,AC,AQ,AO,BD,AX,AL,AA,AY,AU,BO,BG,BM,BH,CO,DK,BP,BU,BI,BV,BN,AB,FD,jF,jD,jE,↓reduceIte,jB,jI,jG,jA,jC,enP,GU,KO,bne,b2,f1,EH ag9,EH ag3,JE,O9]
  refine (QA G e.name _).use ?_
  cases bi:IB e.name
  ·simp -implicitDefEqProofs only [BC,A8,BK,BJ,A7,CJ,CU,DR,AZ,BA,BL,BX,CG,F8,EM,AC,AQ,AO,BD,AX,AL,AA,AY,AU,BG,BM,BB,CO,DK,DU,I5,AB,FO,↓reduceIte,jB,jA,jC]
   exact ⟨by rw [fin true (by rw [hv,bi]; rfl)]; rfl,_,rfl⟩
  ·simp -implicitDefEqProofs only [BC,A8,BR,BK,BJ,A7,CU,DX,AZ,BA,BL,BX,CG,F8,EM,AC,AQ,AO,BD,AX,AL,AA,AY,AU,BG,BM,BB,CO,DK,DU,I5,AB,FO,↓reduceIte,jB,jA,jW,jC]
   exact ⟨by rw [fin false (by rw [hv,bi]; rfl)]; rfl,_,rfl⟩
 ·have e2:e.op=2:=by simpa using b2
  have hv:WU e = !IX e.name:=by
   unfold WU; rw [e2]; simp
  simp -implicitDefEqProofs only [BL,BX,CG,F8,AC,AQ,AO,BD,AX,AL,AA,AY,BO,BP,BI,BV,BN,AB,jF,jD,jE,↓reduceIte,jB,jG,jA,jC,enP,KO,b2,f1,EH ag9,EH ag3,JE,O9]
  refine (AM5 G e.name _ hl).use ?_
  cases bi:IX e.name
  ·simp -implicitDefEqProofs only [BC,A8,BK,BJ,A7,CJ,CU,DR,AZ,BA,BL,BX,CG,F8,FY,VW,AC,AQ,AO,BD,AX,AL,AA,EG,AY,AU,BG,BM,BH,BB,CO,DK,I5,AB,FO,↓reduceIte,jB,jA,jC]
   exact ⟨by rw [fin true (by rw [hv,bi]; rfl)]; rfl,_,rfl⟩
  ·simp -implicitDefEqProofs only [AZ,BL,BX,CG,F8,EM,AC,AQ,AO,BD,AX,AL,AA,AY,AU,BO,BM,BH,CO,DK,BP,I5,BI,BV,BN,AB,FO,jF,jD,jE,↓reduceIte,jB,jI,jA,jW,jC,enP,GU,f1,EH ag3,JE]
   refine (U8 G e.op _).use ?_
   have bm:J8 e.op=true:=by rw [e2]; rfl
   simp -implicitDefEqProofs only [BC,A8,BR,BK,BJ,A7,CU,DX,AZ,BA,BL,BX,CG,F8,EM,JA,AC,AQ,AO,BD,AX,AL,AA,EG,AY,AU,BG,BM,BH,BB,CO,DK,DU,BP,BU,BI,AB,FD,↓reduceIte,jB,jI,jA,jW,jC,enP,GU,bne,bm,f1,EH ag3,JE,b2]
   exact ⟨by rw [fin false (by rw [hv,bi]; rfl)]; rfl,_,rfl⟩
theorem AEI:KR Tryz.prog 113=some false:=by kernel_rfl
theorem AUO:szO Tryz.prog 113=some 1:=by kernel_rfl
theorem AF1 (h:Hp):JU Tryz.prog h 40=some (.ptr h.length 0 0,h ++ [.live 4 [[.int .i64 0,.int .i64 0,.str ⟨#[]⟩,.sl .nil 0 []]]]):=J7 (row := [.int .i64 0,.int .i64 0,.str ⟨#[]⟩,.sl .nil 0 []]) (by kernel_rfl)
theorem AGQ (h:Hp) (e:Ex) (row:List AV) (hr:row.length=4):F7 Tryz.prog (h ++ [.live 4 [row]]) 40 (.ptr h.length 0 0) (.agg (CW e))=some (h ++ [.live 4 [CW e]]):=by
 rw [ADN (TK (KU e)) (by rw [EN]; exact J4) (by rw [EN,hr]; exact jL _)]
 have:splice row 0 (CW e)=CW e:=by unfold splice; simp [EN,hr]
 rw [this]
theorem A2A (h:Hp):JU Tryz.prog h 35=some (.ptr h.length 0 0,h ++ [.live 1 [[.int .i64 0]]]):=J7 (row := [.int .i64 0]) (by kernel_rfl)
theorem al3 (h:Hp):JU Tryz.prog h 3=some (.ptr h.length 0 0,h ++ [.live 1 [[.int .i64 0]]]):=J7 (row := [.int .i64 0]) (by kernel_rfl)
theorem AU8 (h:Hp):JU Tryz.prog h 113=some (.ptr h.length 0 0,h ++ [.live 1 [[.nilfn]]]):=J7 (row := [.nilfn]) (by kernel_rfl)
theorem IL {h:Hp} {t:TypeId} {b:Nat} {v:AV} (hag:KR Tryz.prog t=some false) (hb:h[b]? = some (.live 1 [[v]])):DL Tryz.prog h t (.ptr b 0 0)=some v:=by
 rw [DC hag hb (row := [v]) rfl]; rfl
theorem SY {h:Hp} {t:TypeId} {b:Nat} {v u:AV} (hs:szO Tryz.prog t=some 1) (hc:I8 u=some [u]) (hb:h[b]? = some (.live 1 [[v]])):F7 Tryz.prog h t (.ptr b 0 0) u=some (h.set b (.live 1 [[u]])):=by
 rw [JG hc hs hb (row := [v]) rfl (by simp)]; rfl
theorem A11 (h:Hp) (f:Fn) (a b:List AV):PG h (.fn f a b)=some (.ptr h.length 0 0,h ++ [.live 1 [[.fn f a b]]]):=rfl
def Chg (c:Nat) (h h':Hp):Prop:=h.length≤h'.length∧∀ b,b < h.length→b≠c→h'[b]? = h[b]?
theorem Chg.refl (c:Nat) (h:Hp):Chg c h h:=⟨jL _,fun _ _ _=>rfl⟩
theorem Chg.trans {c:Nat} {a b d:Hp} (h1:Chg c a b) (h2:Chg c b d):Chg c a d :=
 ⟨Nat.le_trans h1.1 h2.1,fun i hi hc=>by rw [h2.2 i (Nat.lt_of_lt_of_le hi h1.1) hc,h1.2 i hi hc]⟩
theorem Chg.app (c:Nat) (h x:Hp):Chg c h (h ++ x):=⟨by simp,fun i hi _=>List.getElem?_append_left hi⟩
theorem Chg.set (c:Nat) (h:Hp) (x:ABlk):Chg c h (h.set c x):=⟨by simp,fun i _ hc=>by rw [List.getElem?_set,if_neg (fun e=>hc e.symm)]⟩
theorem Chg.get {c b:Nat} {h h':Hp} {x:ABlk} (hc:Chg c h h') (hb:h[b]? = some x) (hne:b≠c):h'[b]? = some x:=by
 rw [hc.2 b (CP hb) hne]; exact hb
theorem Chg.above {c:Nat} {h h':Hp} (hc:Chg c h h') (hl:h.length≤c) : ∃ x,h'=h ++ x:=by
 refine ⟨h'.drop h.length,?_⟩
 have:h'.take h.length=h:=by
  refine List.ext_getElem? fun i => ?_
  rcases jT i h.length with hi | hi
  ·rw [List.getElem?_take_of_lt hi,hc.2 i hi (by omega)]
  ·rw [zF (by rw [zV]; omega),zF hi]
 conv=>lhs; rw [← wB h.length h',this]
def run (upd:Ex→Int→Int) (cont:Int→Bool):List Ex→Int→Int × Bool
 | [],z=>(z,true)
 | e :: es,z=>if cont (upd e z) then run upd cont es (upd e z) else (upd e z,false)
theorem run_go {upd:Ex→Int→Int} {cont:Int→Bool} : ∀ {xs:List Ex} (ys:List Ex) {z z':Int},run upd cont xs z=(z',true)→run upd cont (xs ++ ys) z=run upd cont ys z'
 | [],ys,z,z',h=>by cases h; rfl
 | x :: xs,ys,z,z',h=>by
   simp only [run,zU] at h ⊢
   split at h
   ·rename_i hc; rw [if_pos hc]; exact run_go ys h
   ·cases h
theorem run_stop {upd:Ex→Int→Int} {cont:Int→Bool} : ∀ {xs:List Ex} (ys:List Ex) {z z':Int},run upd cont xs z=(z',false)→run upd cont (xs ++ ys) z=(z',false)
 | [],ys,z,z',h=>by cases h
 | x :: xs,ys,z,z',h=>by
   simp only [run,zU] at h ⊢
   split at h
   ·rename_i hc; rw [if_pos hc]; exact run_stop ys h
   ·rename_i hc; rw [if_neg hc]; exact h
theorem J6 (xs:List Ex) (j:Nat) (hj:j < xs.length):II (xs.take (j+1))=II (xs.take j) ++ pre xs[j]:=by
 rw [List.take_succ_eq_append_getElem hj,LV]; simp [II]
theorem LG {a:Ex} : ∀ {xs:List Ex},a∈xs→∀ x∈pre a,x∈II xs
 | [],h,_,_=>by cases h
 | y :: ys,h,x,hx=>by
   simp only [II,List.mem_append]
   cases List.mem_cons.1 h with
   | inl e=>subst e; exact .inl hx
   | inr e=>exact .inr (LG e x hx)
def AL7 (G:Nat→AV) (k:FuncId) (upd:Ex→Int→Int) (cont:Int→Bool) (e:Ex):Prop :=
 ∀ (h:Hp) (c:Nat) (z:Int),h[c]? = some (.live 1 [[.int .i64 z]])→ACalls (En G) k [.agg (CW e),.ptr c 0 0] h fun v h'=>v = .bool (cont (upd e z))∧Chg c h h'∧h'[c]? = some (.live 1 [[.int .i64 (upd e z)]])
theorem ANJ (G:Nat→AV) (k:FuncId) (upd:Ex→Int→Int) (cont:Int→Bool) (c vb db:Nat) (hv:vb≠c) (hd:db≠c) (e:Ex) :
  wt e≤1099511627776→(∀ x∈pre e,AL7 G k upd cont x)→∀ (h:Hp) (z:Int),h[c]? = some (.live 1 [[.int .i64 z]])→h[vb]? = some (.live 1 [[.fn (.func k) [] [.ptr c 0 0]]]) →
   h[db]? = some (.live 1 [[.fn (.func 130) [] [.ptr vb 0 0,.ptr db 0 0]]]) →
   ACalls (En G) 130 [.agg (CW e),.ptr vb 0 0,.ptr db 0 0] h fun v h'=>v = .bool (run upd cont (pre e) z).2∧Chg c h h'∧h'[c]? = some (.live 1 [[.int .i64 (run upd cont (pre e) z).1]]):=by
 induction e using Ex.induct with | h e ih => ?_
 intro hw hvis h z hc hvb hdb
 have hcl:=CP hc
 have hal:e.args.length≤1099511627776:=by have:=XC e.args; have:=PQ e; omega
 refine acN Tryz.func130 rfl ?_
 show awp _ _ _ _ _ (EE _ [.tmp 4] _)
 simp -implicitDefEqProofs only [BC,A8,A7,AZ,BA,AC,AQ,AO,BD,AX,AL,AA,AY,AU,BM,BB,FN,BP,BV,BN,BZ,AB,BF,BQ,jF,jD,zK,zU,↓reduceIte,jB,jA,jC,enP,bxE,IL AEI (CX hvb),ldE]
 refine (hvis e (by rw [pre_eq]; simp) _ c z (CX hc)).mono ?_
 rintro v h1 ⟨rfl,hch,hc1⟩
 have hch0:=(Chg.app c h _).trans hch
 have hb3:h1[h.length]? = some (.live 4 [CW e]):=hch.get (C9 _ _) (by omega)
 have hrun:run upd cont (pre e) z=if cont (upd e z) then run upd cont (II e.args) (upd e z) else (upd e z,false):=by rw [pre_eq]; rfl
 simp -implicitDefEqProofs only [BJ,A7,AZ,BA,AC,AQ,AO,BD,AX,AL,AA,AY,I5,AB,FO,↓reduceIte,jA,jC]
 cases hct:cont (upd e z)
 ·simp -implicitDefEqProofs only [BC,A8,BK,A7,CJ,CU,DR,AZ,BA,AC,AQ,AO,BD,AX,AL,AA,AU,BM,BB,↓reduceIte,jA,jC]
  rw [hrun,hct]
  exact ⟨rfl,hch0,hc1⟩
 rw [hct,if_pos rfl] at hrun
 have hvb1:=hch0.get hvb hv
 have hdb1:=hch0.get hdb hd
 have l3:DL Tryz.prog h1 23 (.ptr h.length 0 3)=some (.sl e.m 4 (e.args.map CW)):=by rw [DC QU hb3 (row:=CW e) rfl,SB]
 simp -implicitDefEqProofs only [BC,CB,A8,BR,A7,DX,AZ,BA,AC,AQ,AO,BD,AX,AL,AA,AY,AU,BG,BH,BP,BI,E5,AB,↓reduceIte,jB,jG,jA,jW,jC,enP,TT,JW,l3,jM]
 refine D7 (fun n F H => ∃ j z',n+j=e.args.length∧F 1 = .ptr vb 0 0∧F 2 = .ptr db 0 0∧F 12 = .sl e.m 4 (e.args.map CW)∧F 13 = .int .i64 e.args.length∧F 14 = .int .i64 (j:Nat)∧Chg c h H∧H[c]? = some (.live 1 [[.int .i64 z']])∧run upd cont (II (e.args.take j)) (upd e z)=(z',true)) e.args.length ⟨0,upd e z,by simp,by simp -implicitDefEqProofs only [AA,BF,BQ,↓reduceIte,jB],by simp -implicitDefEqProofs only [AA,BF,BQ,↓reduceIte,jB],by simp -implicitDefEqProofs only [AA,↓reduceIte,jB],by simp -implicitDefEqProofs only [AA,↓reduceIte,jB],by simp -implicitDefEqProofs only [AA,↓reduceIte]; rfl,hch0,hc1,rfl⟩ ?_
 rintro n F H ⟨j,z',hj,f1,f2,f12,f13,f14,hC,hcz,hr⟩
 simp -implicitDefEqProofs only [BC,A8,BJ,A7,AZ,BA,AC,AQ,AO,BD,AX,AL,AA,AY,BU,AB,DF,↓reduceIte,jA,jC,enP,f13,f14]
 refine CV (fun hlt => ?_) (fun hlt => ?_)
 ·have hj':j < e.args.length:=by simpa using hlt
  have hdH:H[db]? = some (.live 1 [[.fn (.func 130) [] [.ptr vb 0 0,.ptr db 0 0]]]):=hC.get hdb hd
  have hvH:H[vb]? = some (.live 1 [[.fn (.func k) [] [.ptr c 0 0]]]):=hC.get hvb hv
  simp -implicitDefEqProofs only [BC,CB,A8,BR,A7,AZ,BA,AC,AQ,AO,BD,AX,AL,DZ,AA,AY,EZ,BP,CZ,CQ,BV,BN,BZ,AB,CE,jF,jD,zK,zU,↓reduceIte,jB,jA,jC,enP,P9,jJ,f12,f14,EF hj',EO MK J4 EN hj',AF1,AGQ _ _ [.int .i64 0,.int .i64 0,.str ⟨#[]⟩,.sl .nil 0 []] rfl,f2,IL AEI (CX hdH),ldE]
  have hmem:e.args[j]∈e.args:=List.getElem_mem hj'
  refine (ih e.args[j] hmem (by have:=UX hmem; have:=PQ e; omega) (fun x hx=>hvis x (by rw [pre_eq]; exact List.mem_cons_of_mem _ (LG hmem x hx))) _ z' (CX hcz) (CX hvH) (CX hdH)).mono ?_
  rintro v h2 ⟨rfl,hch2,hc2⟩
  have hC2:=hC.trans ((Chg.app c H _).trans hch2)
  have hsplit:II e.args=II (e.args.take j) ++ (pre e.args[j] ++ II (e.args.drop (j+1))):=by
   rw [← List.append_assoc,← J6 _ _ hj',← LV,wB]
  simp -implicitDefEqProofs only [BJ,A7,AZ,BA,AC,AQ,AO,BD,AX,AL,AA,AY,I5,AB,FO,↓reduceIte,jA,jC]
  rcases hrr:run upd cont (pre e.args[j]) z' with ⟨z2,b2⟩
  rw [hrr] at hc2
  cases b2
  ·simp -implicitDefEqProofs only [BC,A8,BK,A7,CJ,D5,FV,CU,DR,AZ,BA,AC,AQ,AO,BD,AX,AL,AA,AU,BM,BB,↓reduceIte,jA,jC]
   have:run upd cont (pre e) z=(z2,false):=by rw [hrun,hsplit,run_go _ hr]; exact run_stop _ hrr
   rw [this]
   exact ⟨rfl,hC2,hc2⟩
  ·simp -implicitDefEqProofs only [A8,BR,A7,EK,FI,DX,AZ,BA,AC,AQ,AO,BD,AX,AL,AA,AY,AU,BG,BH,BU,AB,DY,↓reduceIte,jB,jA,jW,jC,enP,f1,f2,f12,f13,f14,wrap_succ (show j < 9223372036854775807 by omega)]
   refine ⟨n - 1,by omega,j+1,z2,by omega,trivial,trivial,trivial,trivial,rfl,hC2,hc2,?_⟩
   rw [J6 _ _ hj',run_go _ hr]; exact hrr
 ·have hj' : ¬ j < e.args.length:=by simpa using hlt
  simp -implicitDefEqProofs only [BC,A8,BK,D6,A7,EU,FT,FX,CU,AZ,BA,AC,AQ,AO,BD,AX,AL,AA,AU,BM,BB,↓reduceIte,jA,jC]
  rw [List.take_of_length_le (by omega)] at hr
  rw [hrun,hr]
  exact ⟨rfl,hC,hcz⟩
theorem ADJ (G:Nat→AV) (k:FuncId) (upd:Ex→Int→Int) (cont:Int→Bool) (c:Nat) (e:Ex) (hw:wt e≤1099511627776) (hvis : ∀ x∈pre e,AL7 G k upd cont x) (h:Hp) (z:Int) (hc:h[c]? = some (.live 1 [[.int .i64 z]])) :
  ACalls (En G) 87 [.agg (CW e),.fn (.func k) [] [.ptr c 0 0]] h fun _ h'=>Chg c h h'∧h'[c]? = some (.live 1 [[.int .i64 (run upd cont (pre e) z).1]]):=by
 have hcl:=CP hc
 refine acN Tryz.func87 rfl ?_
 show awp _ _ _ _ _ (EE _ [] _)
 simp -implicitDefEqProofs only [BC,A8,A7,AZ,BA,AC,AQ,AO,BD,AX,AL,AA,AY,EZ,FN,CZ,JF,BZ,BF,BQ,jF,jD,↓reduceIte,jB,jA,jC,enP,jJ,bxE,A11,AU8]
 have g0:(h ++ [ABlk.live 4 [CW e]] ++ [ABlk.live 1 [[AV.fn (.func k) [] [.ptr c 0 0]]]] ++ [ABlk.live 1 [[AV.nilfn]]])[(h ++ [ABlk.live 4 [CW e]] ++ [ABlk.live 1 [[AV.fn (.func k) [] [.ptr c 0 0]]]]).length]? = some (.live 1 [[.nilfn]]):=C9 _ _
 simp -implicitDefEqProofs only [A8,A7,AZ,BA,AC,AQ,AO,BD,AX,DZ,AA,AY,BP,CE,↓reduceIte,jB,jA,jC,enP,SY AUO (AVA _ _ _) g0]
 generalize hdb:(h ++ [ABlk.live 4 [CW e]] ++ [ABlk.live 1 [[AV.fn (.func k) [] [.ptr c 0 0]]]]).length=db at g0 ⊢
 generalize hvb:(h ++ [ABlk.live 4 [CW e]]).length=vb
 have hvl:vb=h.length+1:=by rw [← hvb]; simp
 have hdl:db=h.length+2:=by rw [← hdb]; simp
 generalize hH:(h ++ [ABlk.live 4 [CW e]] ++ [ABlk.live 1 [[AV.fn (.func k) [] [.ptr c 0 0]]]] ++ [ABlk.live 1 [[AV.nilfn]]]).set db (.live 1 [[AV.fn (.func 130) [] [.ptr vb 0 0,.ptr db 0 0]]])=H
 have h1:H[db]? = some (.live 1 [[.fn (.func 130) [] [.ptr vb 0 0,.ptr db 0 0]]]):=by rw [← hH]; exact G7 g0
 have h2:H[vb]? = some (.live 1 [[.fn (.func k) [] [.ptr c 0 0]]]):=by
  rw [← hH]; refine LZ ?_ (by omega)
  rw [← hvb]; exact CX (C9 _ _)
 have h3:H[h.length]? = some (.live 4 [CW e]):=by
  rw [← hH]; refine LZ ?_ (by omega)
  exact CX (CX (C9 _ _))
 have h4:H[c]? = some (.live 1 [[.int .i64 z]]):=by
  rw [← hH]; refine LZ ?_ (by omega)
  exact CX (CX (CX hc))
 have hC:Chg c h H:=by
  refine ⟨by rw [← hH]; simp,fun b hb hbc => ?_⟩
  obtain ⟨x,hx⟩ : ∃ x,h[b]? = some x:=⟨_,jU hb⟩
  rw [← hH,hx]
  exact LZ (CX (CX (CX hx))) (by omega)
 simp -implicitDefEqProofs only [AZ,AC,AQ,AO,BD,AX,AL,AA,AY,BP,BV,BN,AB,jF,jD,zK,zU,↓reduceIte,jB,jA,jC,enP,IL AEI h1,IR h3]
 refine (ANJ G k upd cont c vb db (by omega) (by omega) e hw hvis H z h4 h2 h1).mono ?_
 rintro v h' ⟨rfl,hch,hc1⟩
 simp -implicitDefEqProofs only [JK,BA,AL]
 exact ⟨hC.trans hch,hc1⟩
end Go.Proofs.YtokehnfjjmpanaaGreatDoor.Cov
