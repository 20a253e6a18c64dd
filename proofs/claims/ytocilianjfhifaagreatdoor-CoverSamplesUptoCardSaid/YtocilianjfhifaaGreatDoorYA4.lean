/- Part 4 of the proof (Ft, B1, B2, B3, B4, B5, B6, B7, E1, E2, E3); no condition. -/
import Derived.Test.YtocilianjfhifaaGreatDoorProg
import Derived.KernelRfl
import Derived.Laws.RangeAny
import Derived.Shelf.Strings.Cut
import Derived.Lib.IndexMore
import Derived.Test.YtocilianjfhifaaGreatDoorYA3
set_option linter.unusedVariables false
namespace Go.Proofs.YtocilianjfhifaaGreatDoor.Sm

theorem sz3:szO Tryz.prog 3=some 1:=by kernel_rfl
theorem ag3:KT Tryz.prog 3=some false:=by kernel_rfl
theorem ag4:KT Tryz.prog 4=some false:=by kernel_rfl
theorem sz9:szO Tryz.prog 9=some 1:=by kernel_rfl
theorem ag9:KT Tryz.prog 9=some false:=by kernel_rfl
theorem TS:KT Tryz.prog 22=some false:=by kernel_rfl
theorem AC9:KT Tryz.prog 23=some false:=by kernel_rfl
theorem AO3:szO Tryz.prog 25=some 2:=by kernel_rfl
theorem AW6:KT Tryz.prog 25=some true:=by kernel_rfl
theorem AFH:szO Tryz.prog 26=some 1:=by kernel_rfl
theorem NZ:KT Tryz.prog 26=some false:=by kernel_rfl
theorem AJI:szO Tryz.prog 28=some 4:=by kernel_rfl
theorem AW5:KT Tryz.prog 28=some true:=by kernel_rfl
theorem AVT:szO Tryz.prog 38=some 1:=by kernel_rfl
theorem ART:KT Tryz.prog 38=some false:=by kernel_rfl
theorem AM2:szO Tryz.prog 47=some 1:=by kernel_rfl
theorem AW4:KT Tryz.prog 47=some true:=by kernel_rfl
theorem AGT:KT Tryz.prog 51=some false:=by kernel_rfl
theorem WB:szO Tryz.prog 53=some 4:=by kernel_rfl
theorem AAY:KT Tryz.prog 53=some true:=by kernel_rfl
theorem P6:KT Tryz.prog 54=some false:=by kernel_rfl
theorem YX:szO Tryz.prog 56=some 6:=by kernel_rfl
theorem AC8:KT Tryz.prog 56=some true:=by kernel_rfl
theorem ADL:szO Tryz.prog 57=some 1:=by kernel_rfl
theorem LD:KT Tryz.prog 57=some false:=by kernel_rfl
theorem AXH:szO Tryz.prog 58=some 1:=by kernel_rfl
theorem AWZ:KT Tryz.prog 58=some false:=by kernel_rfl
theorem XK:szO Tryz.prog 71=some 3:=by kernel_rfl
theorem AAX:KT Tryz.prog 71=some true:=by kernel_rfl
theorem AU4:szO Tryz.prog 118=some 1:=by kernel_rfl
theorem OI:KT Tryz.prog 118=some false:=by kernel_rfl
theorem SC:KT Tryz.prog 119=some false:=by kernel_rfl
theorem PD:szO Tryz.prog 121=some 4:=by kernel_rfl
theorem TN:KT Tryz.prog 121=some true:=by kernel_rfl
theorem AU3:szO Tryz.prog 133=some 2:=by kernel_rfl
theorem AZS:KT Tryz.prog 133=some true:=by kernel_rfl
theorem AU2:szO Tryz.prog 146=some 1:=by kernel_rfl
theorem AO5:szO Tryz.prog 179=some 1:=by kernel_rfl
theorem AFA:KT Tryz.prog 179=some false:=by kernel_rfl
theorem ALK:szO Tryz.prog 185=some 2:=by kernel_rfl
theorem AVH:KT Tryz.prog 185=some true:=by kernel_rfl
theorem AO4:szO Tryz.prog 187=some 2:=by kernel_rfl
theorem AZR:KT Tryz.prog 187=some true:=by kernel_rfl
theorem AU1:szO Tryz.prog 195=some 1:=by kernel_rfl
theorem AZQ:KT Tryz.prog 195=some true:=by kernel_rfl
theorem be4 : ∀ p q,I4 Tryz.prog 4 .eql (.bool p) (.bool q)=some (.bool (p == q)):=fun p q=>ARH Tryz.prog 4 p q (by kernel_rfl)
theorem ln9 : ∀ s,LQ Tryz.prog 9 (.str s)=some (.int .i64 s.size):=ATK (by kernel_rfl:Tryz.prog.underlying 9=some .string)
theorem PY : ∀ h a i,H6 Tryz.prog h 22 a i=JR 6 h a i:=JF (by kernel_rfl:Tryz.prog.underlying 22=some (.slice 56)) YX
theorem QI:(∀ m k xs,LQ Tryz.prog 22 (.sl m k xs)=some (.int .i64 xs.length))∧∀ b off len,LQ Tryz.prog 22 (.own b off len)=some (.int .i64 len):=PN (by kernel_rfl:Tryz.prog.underlying 22=some (.slice 56))
theorem ZA : ∀ h a i,H6 Tryz.prog h 23 a i=JR 3 h a i:=JF (by kernel_rfl:Tryz.prog.underlying 23=some (.slice 71)) XK
theorem VQ:(∀ m k xs,LQ Tryz.prog 23 (.sl m k xs)=some (.int .i64 xs.length))∧∀ b off len,LQ Tryz.prog 23 (.own b off len)=some (.int .i64 len):=PN (by kernel_rfl:Tryz.prog.underlying 23=some (.slice 71))
theorem IX:(∀ b i j,DV Tryz.prog 25 (.ptr b i j) 0=some (.ptr b i (j+0)))∧(∀ k xs i j,DV Tryz.prog 25 (.fptr k xs i j) 0=some (.fptr k xs i (j+0))):=JS (by kernel_rfl:L6 Tryz.prog 25 0 0=true)
theorem JZ:(∀ b i j,DV Tryz.prog 25 (.ptr b i j) 1=some (.ptr b i (j+1)))∧(∀ k xs i j,DV Tryz.prog 25 (.fptr k xs i j) 1=some (.fptr k xs i (j+1))):=JS (by kernel_rfl:L6 Tryz.prog 25 1 1=true)
theorem NH : ∀ h a i,H6 Tryz.prog h 26 a i=JR 1 h a i:=JF (by kernel_rfl:Tryz.prog.underlying 26=some (.slice 57)) ADL
theorem TA:(∀ m k xs,LQ Tryz.prog 26 (.sl m k xs)=some (.int .i64 xs.length))∧∀ b off len,LQ Tryz.prog 26 (.own b off len)=some (.int .i64 len):=PN (by kernel_rfl:Tryz.prog.underlying 26=some (.slice 57))
theorem AM0:Tryz.prog.underlying 26=some (.slice 57):=by kernel_rfl
theorem AOP:VN Tryz.prog 57=some 1:=by kernel_rfl
theorem AOA:NI Tryz.prog 57=some 24:=by kernel_rfl
theorem L9:(∀ b i j,DV Tryz.prog 28 (.ptr b i j) 0=some (.ptr b i (j+0)))∧(∀ k xs i j,DV Tryz.prog 28 (.fptr k xs i j) 0=some (.fptr k xs i (j+0))):=JS (by kernel_rfl:L6 Tryz.prog 28 0 0=true)
theorem L8:(∀ b i j,DV Tryz.prog 28 (.ptr b i j) 1=some (.ptr b i (j+1)))∧(∀ k xs i j,DV Tryz.prog 28 (.fptr k xs i j) 1=some (.fptr k xs i (j+1))):=JS (by kernel_rfl:L6 Tryz.prog 28 1 1=true)
theorem WV:(∀ b i j,DV Tryz.prog 28 (.ptr b i j) 2=some (.ptr b i (j+2)))∧(∀ k xs i j,DV Tryz.prog 28 (.fptr k xs i j) 2=some (.fptr k xs i (j+2))):=JS (by kernel_rfl:L6 Tryz.prog 28 2 2=true)
theorem WU:(∀ b i j,DV Tryz.prog 28 (.ptr b i j) 3=some (.ptr b i (j+3)))∧(∀ k xs i j,DV Tryz.prog 28 (.fptr k xs i j) 3=some (.fptr k xs i (j+3))):=JS (by kernel_rfl:L6 Tryz.prog 28 3 3=true)
theorem OZ:(∀ b i j,DV Tryz.prog 47 (.ptr b i j) 0=some (.ptr b i (j+0)))∧(∀ k xs i j,DV Tryz.prog 47 (.fptr k xs i j) 0=some (.fptr k xs i (j+0))):=JS (by kernel_rfl:L6 Tryz.prog 47 0 0=true)
theorem AJ9 : ∀ h a i,H6 Tryz.prog h 51 a i=JR 4 h a i:=JF (by kernel_rfl:Tryz.prog.underlying 51=some (.slice 53)) WB
theorem ADP:(∀ m k xs,LQ Tryz.prog 51 (.sl m k xs)=some (.int .i64 xs.length))∧∀ b off len,LQ Tryz.prog 51 (.own b off len)=some (.int .i64 len):=PN (by kernel_rfl:Tryz.prog.underlying 51=some (.slice 53))
theorem IA:(∀ b i j,DV Tryz.prog 53 (.ptr b i j) 0=some (.ptr b i (j+0)))∧(∀ k xs i j,DV Tryz.prog 53 (.fptr k xs i j) 0=some (.fptr k xs i (j+0))):=JS (by kernel_rfl:L6 Tryz.prog 53 0 0=true)
theorem ZI:(∀ b i j,DV Tryz.prog 53 (.ptr b i j) 1=some (.ptr b i (j+1)))∧(∀ k xs i j,DV Tryz.prog 53 (.fptr k xs i j) 1=some (.fptr k xs i (j+1))):=JS (by kernel_rfl:L6 Tryz.prog 53 1 1=true)
theorem KZ:(∀ b i j,DV Tryz.prog 53 (.ptr b i j) 2=some (.ptr b i (j+2)))∧(∀ k xs i j,DV Tryz.prog 53 (.fptr k xs i j) 2=some (.fptr k xs i (j+2))):=JS (by kernel_rfl:L6 Tryz.prog 53 2 2=true)
theorem OY:(∀ b i j,DV Tryz.prog 53 (.ptr b i j) 3=some (.ptr b i (j+3)))∧(∀ k xs i j,DV Tryz.prog 53 (.fptr k xs i j) 3=some (.fptr k xs i (j+3))):=JS (by kernel_rfl:L6 Tryz.prog 53 3 3=true)
theorem WQ : ∀ h a i,H6 Tryz.prog h 54 a i=JR 4 h a i:=JF (by kernel_rfl:Tryz.prog.underlying 54=some (.slice 121)) PD
theorem Q9:(∀ m k xs,LQ Tryz.prog 54 (.sl m k xs)=some (.int .i64 xs.length))∧∀ b off len,LQ Tryz.prog 54 (.own b off len)=some (.int .i64 len):=PN (by kernel_rfl:Tryz.prog.underlying 54=some (.slice 121))
theorem AF5:(∀ b i j,DV Tryz.prog 56 (.ptr b i j) 0=some (.ptr b i (j+0)))∧(∀ k xs i j,DV Tryz.prog 56 (.fptr k xs i j) 0=some (.fptr k xs i (j+0))):=JS (by kernel_rfl:L6 Tryz.prog 56 0 0=true)
theorem ZH:(∀ b i j,DV Tryz.prog 56 (.ptr b i j) 1=some (.ptr b i (j+1)))∧(∀ k xs i j,DV Tryz.prog 56 (.fptr k xs i j) 1=some (.fptr k xs i (j+1))):=JS (by kernel_rfl:L6 Tryz.prog 56 1 1=true)
theorem IW:(∀ b i j,DV Tryz.prog 56 (.ptr b i j) 2=some (.ptr b i (j+5)))∧(∀ k xs i j,DV Tryz.prog 56 (.fptr k xs i j) 2=some (.fptr k xs i (j+5))):=JS (by kernel_rfl:L6 Tryz.prog 56 2 5=true)
theorem JH : ∀ h a i,H6 Tryz.prog h 57 a i=JR 1 h a i:=JF (by kernel_rfl:Tryz.prog.underlying 57=some (.slice 3)) sz3
theorem JB:(∀ m k xs,LQ Tryz.prog 57 (.sl m k xs)=some (.int .i64 xs.length))∧∀ b off len,LQ Tryz.prog 57 (.own b off len)=some (.int .i64 len):=PN (by kernel_rfl:Tryz.prog.underlying 57=some (.slice 3))
theorem TY:Tryz.prog.underlying 57=some (.slice 3):=by kernel_rfl
theorem XE:VN Tryz.prog 3=some 1:=by kernel_rfl
theorem WX:NI Tryz.prog 3=some 8:=by kernel_rfl
theorem AWE : ∀ h a i,H6 Tryz.prog h 58 a i=JR 2 h a i:=JF (by kernel_rfl:Tryz.prog.underlying 58=some (.slice 187)) AO4
theorem AWA:(∀ m k xs,LQ Tryz.prog 58 (.sl m k xs)=some (.int .i64 xs.length))∧∀ b off len,LQ Tryz.prog 58 (.own b off len)=some (.int .i64 len):=PN (by kernel_rfl:Tryz.prog.underlying 58=some (.slice 187))
theorem AYF : ∀ h a i,H6 Tryz.prog h 64 a i=JR 1 h a i:=JF (by kernel_rfl:Tryz.prog.underlying 64=some (.slice 58)) AXH
theorem A0D:(∀ m k xs,LQ Tryz.prog 64 (.sl m k xs)=some (.int .i64 xs.length))∧∀ b off len,LQ Tryz.prog 64 (.own b off len)=some (.int .i64 len):=PN (by kernel_rfl:Tryz.prog.underlying 64=some (.slice 58))
theorem AZ5:Tryz.prog.underlying 64=some (.slice 58):=by kernel_rfl
theorem AZ3:VN Tryz.prog 58=some 1:=by kernel_rfl
theorem A0Q:NI Tryz.prog 58=some 24:=by kernel_rfl
theorem AF4:(∀ b i j,DV Tryz.prog 71 (.ptr b i j) 0=some (.ptr b i (j+0)))∧(∀ k xs i j,DV Tryz.prog 71 (.fptr k xs i j) 0=some (.fptr k xs i (j+0))):=JS (by kernel_rfl:L6 Tryz.prog 71 0 0=true)
theorem J9:(∀ b i j,DV Tryz.prog 71 (.ptr b i j) 1=some (.ptr b i (j+1)))∧(∀ k xs i j,DV Tryz.prog 71 (.fptr k xs i j) 1=some (.fptr k xs i (j+1))):=JS (by kernel_rfl:L6 Tryz.prog 71 1 1=true)
theorem TB:(∀ b i j,DV Tryz.prog 71 (.ptr b i j) 2=some (.ptr b i (j+2)))∧(∀ k xs i j,DV Tryz.prog 71 (.fptr k xs i j) 2=some (.fptr k xs i (j+2))):=JS (by kernel_rfl:L6 Tryz.prog 71 2 2=true)
theorem AQJ:(∀ b i j,DV Tryz.prog 89 (.ptr b i j) 0=some (.ptr b i (j+0)))∧(∀ k xs i j,DV Tryz.prog 89 (.fptr k xs i j) 0=some (.fptr k xs i (j+0))):=JS (by kernel_rfl:L6 Tryz.prog 89 0 0=true)
theorem AQI:(∀ b i j,DV Tryz.prog 89 (.ptr b i j) 1=some (.ptr b i (j+4)))∧(∀ k xs i j,DV Tryz.prog 89 (.fptr k xs i j) 1=some (.fptr k xs i (j+4))):=JS (by kernel_rfl:L6 Tryz.prog 89 1 4=true)
theorem AB5 : ∀ h a i,H6 Tryz.prog h 118 a i=JR 2 h a i:=JF (by kernel_rfl:Tryz.prog.underlying 118=some (.slice 185)) ALK
theorem QJ:(∀ m k xs,LQ Tryz.prog 118 (.sl m k xs)=some (.int .i64 xs.length))∧∀ b off len,LQ Tryz.prog 118 (.own b off len)=some (.int .i64 len):=PN (by kernel_rfl:Tryz.prog.underlying 118=some (.slice 185))
theorem AAB : ∀ h a i,H6 Tryz.prog h 119 a i=JR 1 h a i:=JF (by kernel_rfl:Tryz.prog.underlying 119=some (.slice 118)) AU4
theorem PT:(∀ m k xs,LQ Tryz.prog 119 (.sl m k xs)=some (.int .i64 xs.length))∧∀ b off len,LQ Tryz.prog 119 (.own b off len)=some (.int .i64 len):=PN (by kernel_rfl:Tryz.prog.underlying 119=some (.slice 118))
theorem AA5:(∀ b i j,DV Tryz.prog 121 (.ptr b i j) 0=some (.ptr b i (j+0)))∧(∀ k xs i j,DV Tryz.prog 121 (.fptr k xs i j) 0=some (.fptr k xs i (j+0))):=JS (by kernel_rfl:L6 Tryz.prog 121 0 0=true)
theorem MW:(∀ b i j,DV Tryz.prog 121 (.ptr b i j) 1=some (.ptr b i (j+1)))∧(∀ k xs i j,DV Tryz.prog 121 (.fptr k xs i j) 1=some (.fptr k xs i (j+1))):=JS (by kernel_rfl:L6 Tryz.prog 121 1 1=true)
theorem O8:(∀ b i j,DV Tryz.prog 121 (.ptr b i j) 2=some (.ptr b i (j+2)))∧(∀ k xs i j,DV Tryz.prog 121 (.fptr k xs i j) 2=some (.fptr k xs i (j+2))):=JS (by kernel_rfl:L6 Tryz.prog 121 2 2=true)
theorem MV:(∀ b i j,DV Tryz.prog 121 (.ptr b i j) 3=some (.ptr b i (j+3)))∧(∀ k xs i j,DV Tryz.prog 121 (.fptr k xs i j) 3=some (.fptr k xs i (j+3))):=JS (by kernel_rfl:L6 Tryz.prog 121 3 3=true)
theorem ATU:(∀ b i j,DV Tryz.prog 133 (.ptr b i j) 0=some (.ptr b i (j+0)))∧(∀ k xs i j,DV Tryz.prog 133 (.fptr k xs i j) 0=some (.fptr k xs i (j+0))):=JS (by kernel_rfl:L6 Tryz.prog 133 0 0=true)
theorem AMH:(∀ b i j,DV Tryz.prog 133 (.ptr b i j) 1=some (.ptr b i (j+1)))∧(∀ k xs i j,DV Tryz.prog 133 (.fptr k xs i j) 1=some (.fptr k xs i (j+1))):=JS (by kernel_rfl:L6 Tryz.prog 133 1 1=true)
theorem AUZ:Tryz.prog.underlying 143=some (.slice 146):=by kernel_rfl
theorem AOR:VN Tryz.prog 146=some 1:=by kernel_rfl
theorem AQ5:NI Tryz.prog 146=some 24:=by kernel_rfl
theorem APX:(∀ m k xs,LQ Tryz.prog 146 (.sl m k xs)=some (.int .i64 xs.length))∧∀ b off len,LQ Tryz.prog 146 (.own b off len)=some (.int .i64 len):=PN (by kernel_rfl:Tryz.prog.underlying 146=some (.slice 4))
theorem AXF:Tryz.prog.underlying 146=some (.slice 4):=by kernel_rfl
theorem AEK : ∀ h a i,H6 Tryz.prog h 179 a i=JR 1 h a i:=JF (by kernel_rfl:Tryz.prog.underlying 179=some (.slice 9)) sz9
theorem Z9:(∀ m k xs,LQ Tryz.prog 179 (.sl m k xs)=some (.int .i64 xs.length))∧∀ b off len,LQ Tryz.prog 179 (.own b off len)=some (.int .i64 len):=PN (by kernel_rfl:Tryz.prog.underlying 179=some (.slice 9))
theorem AOZ:Tryz.prog.underlying 179=some (.slice 9):=by kernel_rfl
theorem AOQ:VN Tryz.prog 9=some 1:=by kernel_rfl
theorem AQ4:NI Tryz.prog 9=some 16:=by kernel_rfl
theorem AF8:(∀ b i j,DV Tryz.prog 181 (.ptr b i j) 0=some (.ptr b i (j+0)))∧(∀ k xs i j,DV Tryz.prog 181 (.fptr k xs i j) 0=some (.fptr k xs i (j+0))):=JS (by kernel_rfl:L6 Tryz.prog 181 0 0=true)
theorem AF7:(∀ b i j,DV Tryz.prog 181 (.ptr b i j) 1=some (.ptr b i (j+1)))∧(∀ k xs i j,DV Tryz.prog 181 (.fptr k xs i j) 1=some (.fptr k xs i (j+1))):=JS (by kernel_rfl:L6 Tryz.prog 181 1 1=true)
theorem X9:(∀ b i j,DV Tryz.prog 181 (.ptr b i j) 2=some (.ptr b i (j+2)))∧(∀ k xs i j,DV Tryz.prog 181 (.fptr k xs i j) 2=some (.fptr k xs i (j+2))):=JS (by kernel_rfl:L6 Tryz.prog 181 2 2=true)
theorem AMG:(∀ b i j,DV Tryz.prog 181 (.ptr b i j) 3=some (.ptr b i (j+3)))∧(∀ k xs i j,DV Tryz.prog 181 (.fptr k xs i j) 3=some (.fptr k xs i (j+3))):=JS (by kernel_rfl:L6 Tryz.prog 181 3 3=true)
theorem AF6:(∀ b i j,DV Tryz.prog 181 (.ptr b i j) 4=some (.ptr b i (j+4)))∧(∀ k xs i j,DV Tryz.prog 181 (.fptr k xs i j) 4=some (.fptr k xs i (j+4))):=JS (by kernel_rfl:L6 Tryz.prog 181 4 4=true)
theorem VH:(∀ b i j,DV Tryz.prog 185 (.ptr b i j) 0=some (.ptr b i (j+0)))∧(∀ k xs i j,DV Tryz.prog 185 (.fptr k xs i j) 0=some (.fptr k xs i (j+0))):=JS (by kernel_rfl:L6 Tryz.prog 185 0 0=true)
theorem VG:(∀ b i j,DV Tryz.prog 185 (.ptr b i j) 1=some (.ptr b i (j+1)))∧(∀ k xs i j,DV Tryz.prog 185 (.fptr k xs i j) 1=some (.fptr k xs i (j+1))):=JS (by kernel_rfl:L6 Tryz.prog 185 1 1=true)
theorem AMF:(∀ b i j,DV Tryz.prog 187 (.ptr b i j) 0=some (.ptr b i (j+0)))∧(∀ k xs i j,DV Tryz.prog 187 (.fptr k xs i j) 0=some (.fptr k xs i (j+0))):=JS (by kernel_rfl:L6 Tryz.prog 187 0 0=true)
theorem AME:(∀ b i j,DV Tryz.prog 187 (.ptr b i j) 1=some (.ptr b i (j+1)))∧(∀ k xs i j,DV Tryz.prog 187 (.fptr k xs i j) 1=some (.fptr k xs i (j+1))):=JS (by kernel_rfl:L6 Tryz.prog 187 1 1=true)
theorem ATT:(∀ b i j,DV Tryz.prog 195 (.ptr b i j) 0=some (.ptr b i (j+0)))∧(∀ k xs i j,DV Tryz.prog 195 (.fptr k xs i j) 0=some (.fptr k xs i (j+0))):=JS (by kernel_rfl:L6 Tryz.prog 195 0 0=true)
theorem AYO : ∀ n,U1 Tryz.prog 3 5 (.int .i64 n)=some (.int .u8 (IntKind.u8.wrap n)):=fun n=>YI (ds := .int .i64) Tryz.prog .i64 n (by kernel_rfl) (by kernel_rfl)
theorem AT3 : ∀ n,U1 Tryz.prog 3 252 (.int .i64 n)=some (.int .u16 (IntKind.u16.wrap n)):=fun n=>YI (ds := .int .i64) Tryz.prog .i64 n (by kernel_rfl) (by kernel_rfl)
theorem AQ0 : ∀ n,U1 Tryz.prog 5 3 (.int .u8 n)=some (.int .i64 (IntKind.i64.wrap n)):=fun n=>YI (ds := .int .u8) Tryz.prog .u8 n (by kernel_rfl) (by kernel_rfl)
theorem AT4 : ∀ n,U1 Tryz.prog 252 3 (.int .u16 n)=some (.int .i64 (IntKind.i64.wrap n)):=fun n=>YI (ds := .int .u16) Tryz.prog .u16 n (by kernel_rfl) (by kernel_rfl)
noncomputable def En (G:Nat→AV):Env:=⟨Tryz.prog,G⟩
theorem enP (G:Nat→AV):(En G).P=Tryz.prog:=rfl
theorem enG (G:Nat→AV):(En G).G=G:=rfl
theorem enM (G:Nat→AV):(En G).P.follows .mixedOrders=true:=by kernel_rfl
end Go.Proofs.YtocilianjfhifaaGreatDoor.Sm
namespace Go.Proofs.YtocilianjfhifaaGreatDoor.Bins
open Sm
structure Rng where
 lo:Int
 hi:Int
 deriving DecidableEq
def encR (r:Rng):List AV := [.int .i64 r.lo,.int .i64 r.hi]
theorem ACP (r:Rng):(encR r).length=2:=rfl
theorem V4 (r:Rng):(encR r)[0]? = some (.int .i64 r.lo):=rfl
theorem V3 (r:Rng):(encR r)[1]? = some (.int .i64 r.hi):=rfl
def inside (xs:List Rng) (v:Int):Bool:=xs.any fun r=>decide (r.lo≤v) && decide (v≤r.hi)
theorem KF {α:Type} (p:α→Bool) (xs:List α) (k:Nat) (h:k < xs.length):(xs.drop k).any p=(p xs[k] || (xs.drop (k+1)).any p):=by
 rw [List.drop_eq_getElem_cons h,List.any_cons]
theorem bxR (h:Hp) (r:Rng):O3 h (.agg (encR r))=some (.ptr h.length 0 0,h ++ [.live 2 [encR r]]):=rfl
end Go.Proofs.YtocilianjfhifaaGreatDoor.Bins
set_option linter.unusedSimpArgs false
set_option maxRecDepth 8000
namespace Go.Proofs.YtocilianjfhifaaGreatDoor.Bins
open Sm
def bad (r:Rng):Bool:=decide (r.lo < 0) || decide (r.lo > r.hi) || decide (r.hi > 65535)
def IZ (xs:List Rng):Int:=if xs.length > 64 then 2 else if xs.any bad then 1 else 0
theorem Z7 {xs:List Rng} (h:xs.length > 64):IZ xs=2:=by simp [IZ,h]
theorem UF {xs:List Rng} (h : ¬ xs.length > 64) (hb:xs.any bad=true):IZ xs=1:=by simp [IZ,h,hb]
theorem WI {xs:List Rng} (h : ¬ xs.length > 64) (hb:xs.any bad=false):IZ xs=0:=by simp [IZ,h,hb]
theorem A00 (h:Hp):J3 Tryz.prog h 185=some (.ptr h.length 0 0,h ++ [.live 2 [[.int .i64 0,.int .i64 0]]]):=JV (row := [.int .i64 0,.int .i64 0]) (by kernel_rfl)
theorem AZ6 (h:Hp) (r:Rng) (row:List AV) (hr:row.length=2):FM Tryz.prog (h ++ [.live 2 [row]]) 185 (.ptr h.length 0 0) (.agg (encR r))=some (h ++ [.live 2 [encR r]]):=by
 rw [MP (cs:=encR r) rfl ALK (by simp [hr,encR])]
 simp [splice,hr,encR]
theorem AHP (G:Nat→AV) (xs:List Rng) (m:SM) (h:Hp) (hl:xs.length≤1099511627776) :
  PCall (En G) 203 [.sl m 2 (xs.map encR)] h (.int .i64 (IZ xs)):=by
 refine ACalls.pure0 rfl ?_
 refine CB (H:=Hint.none) (enM G) Tryz.func203 rfl (by kernel_rfl) (by kernel_rfl) (nLb (by kernel_rfl)) ?_
 show awp _ _ _ _ _ (EE _ [.tmp 2] _)
 simp -implicitDefEqProofs only [BC,BA,BI,A8,AY,BB,AO,AQ,AL,BD,AX,AC,AA,A7,AU,BH,BG,AZ,BR,D6,AB,EZ,BF,↓reduceIte,Nat.reduceEqDiff,oGs,bNf,enP,QJ,lLm]
 refine CW (fun hc => ?_) (fun hc => ?_)
 ·simp -implicitDefEqProofs only [BC,BA,BL,A8,CP,CJ,AY,BB,AO,AQ,AL,BD,AX,AC,AA,AU,BH,AZ,↓reduceIte,oGs,bNf]
  exact ⟨by rw [Z7 (by simp at hc; omega)],[],by simp⟩
 simp -implicitDefEqProofs only [BC,BQ,BA,BO,A8,AY,BB,AO,AQ,AL,BD,AX,AC,AA,A7,AU,BH,BG,D6,AB,BF,↓reduceIte,Nat.reduceEqDiff,oGs,bNf,enP,QJ,lLm]
 have h64 : ¬ xs.length > 64:=by simp at hc; omega
 refine DR (fun n F H => ∃ k,n+k=xs.length∧F 8 = .sl m 2 (xs.map encR)∧F 9 = .int .i64 xs.length∧F 10 = .int .i64 (k:Nat)∧(∃ x,H=h ++ x)∧xs.any bad=(xs.drop k).any bad) xs.length ⟨0,by simp,rfl,rfl,rfl,⟨[],by simp⟩,rfl⟩ ?_
 rintro n F H ⟨k,hk,f8,f9,f10,⟨x,rfl⟩,hin⟩
 simp -implicitDefEqProofs only [BC,BA,BI,A8,AY,BB,AO,AQ,AL,BD,AX,AC,AA,A7,BR,AB,DF,↓reduceIte,oGs,bNf,enP,f8,f9,f10]
 refine CW (fun hc => ?_) (fun hc => ?_)
 ·have hc':k < xs.length:=by simpa using hc
  have hs:=KF bad xs k hc'
  simp -implicitDefEqProofs only [BC,BQ,BA,BO,A8,AY,BB,BJ,BP,CO,AO,AQ,AL,BD,AX,AC,E8,AA,A7,AU,BH,BG,GG,BV,EP,BR,BK,CG,CE,AB,DW,DF,↓reduceIte,Nat.reduceEqDiff,Nat.add_zero,oGs,bNf,enP,AB5,VH,Option.getD_none,f8,f9,f10,D5 hc',FO AVH ALK ACP hc',A00,AZ6 _ _ [.int .i64 0,.int .i64 0] rfl,DC ag3,V4,V3]
  rw [hs] at hin
  have fin:bad xs[k]=true→IZ xs=1:=fun hb=>UF h64 (by rw [hin,hb]; rfl)
  have nxt:bad xs[k]=false→xs.any bad=(xs.drop (k+1)).any bad:=fun hb=>by rw [hin,hb]; rfl
  refine G5 (fun ha => ?_) (fun ha => ?_)
  ·simp -implicitDefEqProofs only [BC,BA,BL,BI,A8,CP,D8,FB,CJ,C9,AY,BB,BJ,BP,CO,FK,AO,AQ,AL,BD,AX,AC,AA,EQ,A7,AU,BH,BM,BG,AZ,CQ,DN,↓reduceIte,Nat.reduceEqDiff,oGs,bNf,ha]
   exact ⟨by rw [fin (by unfold bad; rw [ha]; rfl)],_,by rw [List.append_assoc]⟩
  simp -implicitDefEqProofs only [AY,BJ,BP,CO,EK,AO,AQ,AL,BD,AX,AC,AA,A7,AU,BM,BG,CQ,DK,BV,BR,BK,AB,EZ,↓reduceIte,Nat.reduceEqDiff,Nat.add_zero,Nat.zero_add,oGs,bNf,enP,VH,VG,ha,DC ag3,V4,V3]
  refine G5 (fun hb => ?_) (fun hb => ?_)
  ·simp -implicitDefEqProofs only [BC,BA,BL,BI,A8,CP,D8,FB,CJ,C9,AY,BB,BJ,BP,CO,FK,AO,AQ,AL,BD,AX,AC,AA,EQ,A7,AU,BH,BM,AZ,CQ,DN,↓reduceIte,Nat.reduceEqDiff,oGs,bNf,hb]
   exact ⟨by rw [fin (by unfold bad; rw [hb]; simp)],_,by rw [List.append_assoc]⟩
  simp -implicitDefEqProofs only [BI,A8,AY,BB,BJ,BP,CO,EK,AO,AQ,AL,BD,AX,AC,AA,A7,AU,BH,BM,CQ,DK,BV,BR,BK,AB,EZ,↓reduceIte,Nat.reduceEqDiff,Nat.zero_add,oGs,bNf,enP,VG,hb,DC ag3,V4,V3]
  refine CW (fun hc => ?_) (fun hc => ?_)
  ·simp -implicitDefEqProofs only [BC,BA,BL,A8,CP,D8,FB,CJ,AY,BB,AO,AQ,AL,BD,AX,AC,AA,AU,BH,AZ,↓reduceIte,oGs,bNf]
   exact ⟨by rw [fin (by unfold bad; rw [hc]; simp)],_,by rw [List.append_assoc]⟩
  ·simp -implicitDefEqProofs only [BA,BO,A8,EF,ER,AY,BB,AO,AQ,AL,BD,AX,AC,AA,A7,AU,BH,BG,BR,AB,DI,↓reduceIte,Nat.reduceEqDiff,oGs,bNf,enP,f10,wrap_succ (show k < 9223372036854775807 by omega)]
   exact ⟨n - 1,by omega,k+1,by omega,f8,f9,rfl,⟨_,by rw [List.append_assoc]⟩,nxt (by unfold bad; rw [ha,hb,hc]; rfl)⟩
 ·have hc' : ¬ k < xs.length:=by simpa using hc
  simp -implicitDefEqProofs only [BC,BA,BL,DL,A8,EC,EY,EW,CJ,AY,BB,AO,AQ,AL,BD,AX,AC,AA,AU,BH,AZ,↓reduceIte,oGs,bNf]
  rw [List.drop_eq_nil_of_le (by omega)] at hin
  exact ⟨by rw [WI h64 hin],_,rfl⟩
theorem AJT (G:Nat→AV) (xs:List Rng) (m:SM) (h:Hp) :
  PCall (En G) 216 [.sl m 2 (xs.map encR)] h (.int .i64 (IZ xs)):=by
 refine CB (H:=Hint.none) (enM G) Tryz.func216 rfl (by kernel_rfl) (by kernel_rfl) (nLb (by kernel_rfl)) ?_
 show awp _ _ _ _ _ (EE _ [.tmp 2] _)
 simp -implicitDefEqProofs only [BC,BA,BI,A8,AY,BB,AO,AQ,AL,BD,AX,AC,AA,A7,AU,BH,BG,AZ,BR,D6,AB,EZ,BF,↓reduceIte,Nat.reduceEqDiff,oGs,bNf,enP,QJ,lLm]
 refine CW (fun hc => ?_) (fun hc => ?_)
 ·simp -implicitDefEqProofs only [BC,BA,BL,A8,CP,CJ,AY,BB,AO,AQ,AL,BD,AX,AC,AA,AU,BH,AZ,↓reduceIte,oGs,bNf]
  exact ⟨by rw [Z7 (by simp at hc; omega)],trivial⟩
 simp -implicitDefEqProofs only [BC,BQ,BA,BO,A8,AY,BB,AO,AQ,AL,BD,AX,AC,AU,BH,AZ,oGs,bNf,lLm]
 have h64 : ¬ xs.length > 64:=by simp at hc; omega
 refine DR (fun n F H => ∃ k,n+k=xs.length∧F 0 = .sl m 2 (xs.map encR)∧F 3 = .int .i64 (k:Nat)∧H=h∧xs.any bad=(xs.drop k).any bad) xs.length ⟨0,by simp,rfl,rfl,rfl,rfl⟩ ?_
 rintro n F H ⟨k,hk,f0,f3,rfl,hin⟩
 simp -implicitDefEqProofs only [BC,BA,BI,A8,AY,BB,AO,AQ,AL,BD,AX,AC,AA,A7,BG,BR,D6,AB,DF,↓reduceIte,Nat.reduceEqDiff,oGs,bNf,enP,QJ,f0,f3,lLm]
 refine CW (fun hc => ?_) (fun hc => ?_)
 ·have hc':k < xs.length:=by simpa using hc
  rw [KF bad xs k hc'] at hin
  have fin:bad xs[k]=true→IZ xs=1:=fun hb=>UF h64 (by rw [hin,hb]; rfl)
  have nxt:bad xs[k]=false→xs.any bad=(xs.drop (k+1)).any bad:=fun hb=>by rw [hin,hb]; rfl
  simp -implicitDefEqProofs only [BC,BQ,BO,A8]
  refine FD (by kernel_rfl) ?_
  simp -implicitDefEqProofs only [F9,EH,DX,EM,FI,GK,FP,FQ,JA,EG,ED,CO,AO,AA,A7,AU,BH,BV,BR,BK,CG,AB,DF,↓reduceIte,Nat.reduceEqDiff,Nat.reduceAdd,Nat.add_zero,oGs,enP,AB5,VH,f0,f3,D5 hc',DT ag3 hc',V4,V3]
  refine AJB (fun ha => ?_) (fun ha => ?_)
  ·simp -implicitDefEqProofs only [F9,EH,DX,FC,EM,FI,GK,ADH,FP,I5,BC,BA,BL,BI,A8,CP,D8,FB,CJ,C9,AY,BB,CO,AO,AQ,AL,BD,AX,AC,AA,EQ,A7,AU,BH,BM,AZ,CQ,DN,↓reduceIte,Nat.reduceEqDiff,Nat.reduceAdd,oGs,bNf,ha]
   exact ⟨by rw [fin (by unfold bad; rw [ha]; rfl)],trivial⟩
  simp -implicitDefEqProofs only [F9,EH,DX,EM,FI,GK,U2,FP,I5,FQ,JA,EG,ED,CO,AO,AA,A7,AU,BM,CQ,DK,BV,BR,BK,CG,AB,EZ,↓reduceIte,Nat.reduceEqDiff,Nat.reduceAdd,Nat.add_zero,Nat.zero_add,oGs,enP,AB5,VH,VG,ha,f0,f3,D5 hc',DT ag3 hc',V4,V3]
  refine AJB (fun hb => ?_) (fun hb => ?_)
  ·simp -implicitDefEqProofs only [F9,EH,DX,FC,EM,FI,GK,ADH,I5,BC,BA,BL,BI,A8,CP,D8,FB,CJ,C9,AY,BB,CO,AO,AQ,AL,BD,AX,AC,AA,EQ,A7,AU,BH,BM,AZ,CQ,DN,↓reduceIte,Nat.reduceEqDiff,Nat.reduceAdd,oGs,bNf,hb]
   exact ⟨by rw [fin (by unfold bad; rw [hb]; simp)],trivial⟩
  simp -implicitDefEqProofs only [F9,EH,DX,FC,EM,FI,GK,U2,FP,I5,FQ,JA,EG,ED,BI,A8,CO,AO,AA,A7,AU,BH,BM,CQ,DK,BV,BR,BK,CG,AB,EZ,↓reduceIte,Nat.reduceEqDiff,Nat.reduceAdd,Nat.zero_add,oGs,enP,AB5,VG,hb,f0,f3,D5 hc',DT ag3 hc',V4,V3]
  refine CW (fun hc => ?_) (fun hc => ?_)
  ·simp -implicitDefEqProofs only [BC,BA,BL,A8,CP,D8,FB,CJ,AY,BB,AO,AQ,AL,BD,AX,AC,AA,AU,BH,AZ,↓reduceIte,oGs,bNf]
   exact ⟨by rw [fin (by unfold bad; rw [hc]; simp)],trivial⟩
  ·simp -implicitDefEqProofs only [BA,BO,A8,EF,ER,AY,BB,AO,AQ,AL,BD,AX,AC,AA,A7,AU,BH,BG,AZ,BR,AB,DI,↓reduceIte,Nat.reduceEqDiff,oGs,bNf,enP,f3,wrap_succ (show k < 9223372036854775807 by omega)]
   exact ⟨n - 1,by omega,k+1,by omega,f0,rfl,trivial,nxt (by unfold bad; rw [ha,hb,hc]; rfl)⟩
 ·have hc' : ¬ k < xs.length:=by simpa using hc
  simp -implicitDefEqProofs only [BC,BA,BL,DL,A8,EC,EY,EW,CJ,AY,BB,AO,AQ,AL,BD,AX,AC,AA,AU,BH,AZ,↓reduceIte,oGs,bNf]
  rw [List.drop_eq_nil_of_le (by omega)] at hin
  exact ⟨by rw [WI h64 hin],trivial⟩
structure Rs where
 m:SM
 l:List Rng
def AQR (r:Rs):AV := .sl r.m 2 (r.l.map encR)
def encS (r:Rs):List AV := [AQR r]
structure Bin where
 name:ByteArray
 kind:Int
 ranges:Rs
 sm:SM
 steps:List Rs
def GM (b:Bin):List AV := [.str b.name,.int .i64 b.kind,AQR b.ranges,.sl b.sm 1 (b.steps.map encS)]
theorem AMP (b:Bin):(GM b)[0]? = some (.str b.name):=rfl
theorem UT (b:Bin):(GM b)[1]? = some (.int .i64 b.kind):=rfl
theorem YG (b:Bin):(GM b)[2]? = some (.sl b.ranges.m 2 (b.ranges.l.map encR)):=rfl
theorem RZ (b:Bin):(GM b)[3]? = some (.sl b.sm 1 (b.steps.map encS)):=rfl
theorem LW (b:Bin):(GM b).length=4:=rfl
theorem AAG (r:Rs):(encS r)[0]? = some (.sl r.m 2 (r.l.map encR)):=rfl
theorem bxB (h:Hp) (b:Bin):O3 h (.agg (GM b))=some (.ptr h.length 0 0,h ++ [.live 4 [GM b]]):=rfl
theorem ldB (h:Hp) (b:Bin):DZ Tryz.prog (h ++ [.live 4 [GM b]]) 121 (.ptr h.length 0 0)=some (.agg (GM b)):=VB TN PD (by simp [GM])
def QU (b:Bin):SM:=if b.ranges.l.length > 0 then .full else b.sm
def sets (b:Bin):List Rs:=if b.ranges.l.length > 0 then [b.ranges] else b.steps
theorem AYZ (h:Hp) (r:Rs):FH Tryz.prog false h 119 1 [(0,.sl r.m 2 (r.l.map encR))]=some (.sl .full 1 ([r].map encS),h):=by
 have:(ZZ 1 0 [(0,AV.sl r.m 2 (r.l.map encR))])=some [[.sl r.m 2 (r.l.map encR)]]:=rfl
 simp only [FH,Tryz.underlying119,AU4,this]
 have hz:VN Tryz.prog 118=some 1:=by kernel_rfl
 simp [hz,AV.frozen,encS,AQR]
theorem AD8 (G:Nat→AV) (b:Bin) (h:Hp):PCall (En G) 202 [.agg (GM b)] h (.sl (QU b) 1 ((sets b).map encS)):=by
 refine ACalls.pure0 rfl ?_
 refine CB (H:=Hint.none) (enM G) Tryz.func202 rfl (by kernel_rfl) (by kernel_rfl) (nLb (by kernel_rfl)) ?_
 show awp _ _ _ _ _ (EE _ [.tmp 2] _)
 simp -implicitDefEqProofs only [BC,BA,BI,A8,AY,BB,AO,AQ,AL,BD,AX,AC,AA,A7,AU,BH,JD,AZ,FV,BV,BR,BK,D6,CE,AB,EZ,BF,↓reduceIte,Nat.reduceEqDiff,Nat.zero_add,oGs,bNf,enP,QJ,O8,bxB,DC OI,YG,lLm]
 refine CW (fun hc => ?_) (fun hc => ?_)
 ·have hc':b.ranges.l.length > 0:=by simpa using hc
  simp -implicitDefEqProofs only [FT,F6,BC,BA,BL,A8,CP,CJ,AY,BB,AO,AQ,AL,BD,AX,AC,AA,A7,AZ,ES,BV,BK,CE,AB,lMc,lMn,↓reduceIte,Nat.reduceEqDiff,Nat.zero_add,oGs,bNf,enP,O8,DC OI,YG,AYZ]
  exact ⟨by rw [QU,sets,if_pos hc',if_pos hc']; rfl,_,rfl⟩
 ·have hc' : ¬ b.ranges.l.length > 0:=by simpa using hc
  simp -implicitDefEqProofs only [BC,BA,BO,BL,A8,CJ,AY,BB,AO,AQ,AL,BD,AX,AC,AA,A7,AZ,BV,BK,AB,↓reduceIte,Nat.reduceEqDiff,Nat.zero_add,oGs,bNf,enP,MV,DC SC,RZ]
  exact ⟨by rw [QU,sets,if_neg hc',if_neg hc'],_,rfl⟩
theorem AHH (G:Nat→AV) (b:Bin) (h:Hp):PCall (En G) 165 [.agg (GM b)] h (.sl (QU b) 1 ((sets b).map encS)):=by
 refine ACalls.pure0 rfl ?_
 refine CB (H:=Hint.none) (enM G) Tryz.func165 rfl (by kernel_rfl) (by kernel_rfl) (nLb (by kernel_rfl)) ?_
 show awp _ _ _ _ _ (EE _ [.tmp 2] _)
 simp -implicitDefEqProofs only [BC,BA,BI,A8,AY,BB,AO,AQ,AL,BD,AX,AC,AA,A7,AU,BH,JD,AZ,FV,BV,BR,BK,D6,CE,AB,EZ,BF,↓reduceIte,Nat.reduceEqDiff,Nat.zero_add,oGs,bNf,enP,QJ,O8,bxB,DC OI,YG,lLm]
 refine CW (fun hc => ?_) (fun hc => ?_)
 ·have hc':b.ranges.l.length > 0:=by simpa using hc
  simp -implicitDefEqProofs only [FT,F6,BC,BA,BL,A8,CP,CJ,AY,BB,AO,AQ,AL,BD,AX,AC,AA,A7,AZ,ES,BV,BK,CE,AB,lMc,lMn,↓reduceIte,Nat.reduceEqDiff,Nat.zero_add,oGs,bNf,enP,O8,DC OI,YG,AYZ]
  exact ⟨by rw [QU,sets,if_pos hc',if_pos hc']; rfl,_,rfl⟩
 ·have hc' : ¬ b.ranges.l.length > 0:=by simpa using hc
  simp -implicitDefEqProofs only [BC,BA,BO,BL,A8,CJ,AY,BB,AO,AQ,AL,BD,AX,AC,AA,A7,AZ,BV,BK,AB,↓reduceIte,Nat.reduceEqDiff,Nat.zero_add,oGs,bNf,enP,MV,DC SC,RZ]
  exact ⟨by rw [QU,sets,if_neg hc',if_neg hc'],_,rfl⟩
theorem AX5 (m:SM) (k:Nat) (xs:List (List AV)):I4 Tryz.prog 57 .eql (.sl m k xs) (.sl .nil 0 [])=some (.bool (decide (m = .nil))):=by cases m <;> kernel_rfl
def AKR (k:Nat) (xs:List (List AV)) (h:Hp) (v:AV) (h':Hp):Prop :=
 (xs = []∧(∃ k0,v = .sl .nil k0 [])∧h'=h)∨(xs = []∧v = .sl .full k []∧h'=h)∨(xs≠[]∧v = .own h.length 0 xs.length∧h'=h ++ [.live k xs])
theorem AQ8 (h:Hp):FH Tryz.prog false h 57 0 []=some (.sl .full 1 [],h):=by kernel_rfl
theorem cok (f:FuncId) (G:Nat→AV) (hf:(match Tryz.prog.funcs[f]? with | some fn=>fn.body.isSome && !(fn.name == "runtime.NumGoroutine") | none=>false)=true):XD (En G).P f:=by
 have he:(En G).P=Tryz.prog:=rfl
 unfold XD
 rw [he]
 cases hx:Tryz.prog.funcs[f]? with
 | none=>rw [hx] at hf; cases hf
 | some fn =>
   rw [hx] at hf
   simp at hf
   exact ⟨fn,rfl,by simpa using hf.1,by simpa using hf.2⟩
def encI (n:Int):List AV := [.int .i64 n]
theorem encI0 (n:Int):(encI n)[0]? = some (.int .i64 n):=rfl
theorem AQU (G:Nat→AV) (r:Rs) (h:Hp):PCall (En G) 235 [.sl r.m 2 (r.l.map encR)] h (.bool (decide (r.l.length=0))):=by
 refine CB (H:=Hint.none) (enM G) Tryz.func235 rfl (by kernel_rfl) (by kernel_rfl) (nLb (by kernel_rfl)) ?_
 show awp _ _ _ _ _ (EE _ [.tmp 2] _)
 simp -implicitDefEqProofs only [BC,BA,BL,A8,CJ,AY,BB,AO,AQ,AL,BD,AX,AC,AA,A7,AU,BH,BM,BG,AZ,BR,D6,AB,DY,BF,↓reduceIte,Nat.reduceEqDiff,oGs,bNf,enP,QJ,lLm]
 refine ⟨?_,trivial⟩
 congr 1
 rw [Bool.eq_iff_iff]; simp
theorem AH8 (G:Nat→AV) (xs:List Rs) (m:SM) (fid:FuncId) (caps:List AV) (p:Rs→Bool) (h:Hp) (hl:xs.length≤1099511627776)
  (hf : ∀ r,PCall (En G) fid (.sl r.m 2 (r.l.map encR) :: caps) h (.bool (p r))) :
  PCall (En G) 260 [.sl m 1 (xs.map encS),.fn (.func fid) [] caps] h (.int .i64 (match xs.findIdx? p with | some i=>(i:Int) | none => -1)):=by
 refine CB (H:=Hint.none) (enM G) Tryz.func260 rfl (by kernel_rfl) (by kernel_rfl) (nLb (by kernel_rfl)) ?_
 show awp _ _ _ _ _ (EE _ [.tmp 4] _)
 simp -implicitDefEqProofs only [BC,BQ,BA,A8,AY,BB,AO,AQ,AL,BD,AX,AC,AA,A7,AU,BH,BG,AZ,D6,AB,BF,↓reduceIte,Nat.reduceEqDiff,oGs,bNf,enP,PT,lLm]
 refine DR (fun n F H => ∃ k,n+k=xs.length∧F 0 = .sl m 1 (xs.map encS)∧F 1 = .fn (.func fid) [] caps∧F 7 = .int .i64 xs.length∧F 8 = .int .i64 (k:Nat)∧H=h∧(xs.take k).all (fun r => !p r)=true) xs.length ⟨0,by simp,rfl,rfl,rfl,rfl,rfl,rfl⟩ ?_
 rintro n F H ⟨k,hk,f0,f1,f7,f8,rfl,hin⟩
 simp -implicitDefEqProofs only [BC,BA,BI,A8,AY,BB,AO,AQ,AL,BD,AX,AC,AA,A7,BR,AB,DF,↓reduceIte,oGs,bNf,enP,f0,f1,f7,f8,lLm]
 refine CW (fun hc => ?_) (fun hc => ?_)
 ·have hc':k < xs.length:=by simpa using hc
  simp -implicitDefEqProofs only [BC,BQ,BA,BO,A8,AY,BB,AO,AQ,AL,BD,AX,AC,AA,A7,BG,AZ,BV,CG,BZ,BU,AB,lMc,lMn,List.nil_append,List.cons_append,↓reduceIte,Nat.reduceEqDiff,oGs,bNf,enP,AAB,f0,f1,f7,f8,D5 hc',DT OI hc',AAG]
  refine (hf _).use ?_
  simp -implicitDefEqProofs only [BI,A8,BB,AC,AA,A7,↓reduceIte]
  refine CW (fun hb => ?_) (fun hb => ?_)
  ·simp -implicitDefEqProofs only [BC,BA,BL,A8,CP,D8,FB,CJ,AY,BB,AO,AQ,AL,BD,AX,AC,AA,A7,BG,AZ,↓reduceIte,Nat.reduceEqDiff,oGs,bNf]
   refine ⟨?_,trivial⟩
   rw [List.findIdx?_eq_some_iff_getElem.2 ⟨hc',hb,fun j hj=>by
    rw [List.all_eq_true] at hin
    have:=hin xs[j] (by rw [List.mem_take_iff_getElem]; exact ⟨j,by omega,rfl⟩)
    simpa using this⟩]
  ·simp -implicitDefEqProofs only [BA,BO,A8,EF,ER,AY,BB,AO,AQ,AL,BD,AX,AC,AA,A7,AU,BH,BG,BR,AB,DI,↓reduceIte,Nat.reduceEqDiff,oGs,bNf,enP,f8,wrap_succ (show k < 9223372036854775807 by omega)]
   refine ⟨n - 1,by omega,k+1,by omega,f0,f1,f7,rfl,trivial,?_⟩
   rw [List.take_succ_eq_append_getElem hc',List.all_append,hin]
   simp only [List.all_cons,List.all_nil,hb]; rfl
 ·have hc' : ¬ k < xs.length:=by simpa using hc
  simp -implicitDefEqProofs only [BC,BA,BL,DL,A8,EC,EY,EW,CJ,AY,BB,AO,AQ,AL,BD,AX,AC,AA,AU,BH,AZ,↓reduceIte,oGs,bNf]
  refine ⟨?_,trivial⟩
  rw [List.take_of_length_le (by omega)] at hin
  rw [List.findIdx?_eq_none_iff.2 (by simpa using hin)]
theorem ACV (G:Nat→AV) (xs:List Rs) (m:SM) (fid:FuncId) (caps:List AV) (p:Rs→Bool) (h:Hp) (hl:xs.length≤1099511627776)
  (hf : ∀ r,PCall (En G) fid (.sl r.m 2 (r.l.map encR) :: caps) h (.bool (p r))) :
  PCall (En G) 234 [.sl m 1 (xs.map encS),.fn (.func fid) [] caps] h (.bool (xs.any p)):=by
 refine CB (H:=Hint.none) (enM G) Tryz.func234 rfl (by kernel_rfl) (by kernel_rfl) (nLb (by kernel_rfl)) ?_
 show awp _ _ _ _ _ (EE _ [.tmp 4] _)
 simp -implicitDefEqProofs only [BC,BA,A8,AY,BB,AO,AQ,AL,BD,AX,AC,AA,A7,AU,BX,BM,BG,AZ,BZ,BU,BF,BN,lMc,lMn,lAn,↓reduceIte,Nat.reduceEqDiff,oGs,bNf,enP]
 refine (AH8 G xs m fid caps p h hl hf).use ?_
 simp -implicitDefEqProofs only [BL,A8,CJ,AY,BB,AO,AQ,AL,BD,AX,AC,AA,A7,AU,BH,AZ,BR,AB,GZ,↓reduceIte,oGs,bNf,enP]
 refine ⟨?_,trivial⟩
 cases hx:xs.findIdx? p with
 | some i =>
   obtain ⟨h1,h2,_⟩:=List.findIdx?_eq_some_iff_getElem.1 hx
   have:xs.any p=true:=List.any_eq_true.2 ⟨xs[i],by simp,h2⟩
   simp [this]
 | none =>
   have:xs.any p=false:=by
    rw [List.findIdx?_eq_none_iff] at hx
    rw [List.any_eq_false]; intro x hx2; simp [hx x hx2]
   simp [this]
def QP (n:Int):Bool:=decide (n≥97) && decide (n≤122)
def AIQ (n:Int):Bool:=decide (n≥48) && decide (n≤57)
def NE (n:Int):Bool:=QP n || AIQ n || (decide (n≥65) && decide (n≤90)) || n == 95
theorem AB2 (G:Nat→AV) (n:Int) (h:Hp):PCall (En G) 227 [.int .i32 n] h (.bool (QP n)):=by
 refine CB (H:=Hint.none) (enM G) Tryz.func227 rfl (by kernel_rfl) (by kernel_rfl) (nLb (by kernel_rfl)) ?_
 show awp _ _ _ _ _ (EE _ [.tmp 2] _)
 simp -implicitDefEqProofs only [BC,BA,A8,AY,BB,BJ,BP,CO,AO,AQ,AL,BD,AX,AC,AA,A7,AU,BH,BM,BG,AZ,BR,AB,GZ,BF,↓reduceIte,Nat.reduceEqDiff,oGs,bNf,enP]
 refine G5 (fun ha => ?_) (fun ha => ?_)
 ·simp -implicitDefEqProofs only [BL,A8,CJ,AY,BB,BJ,BP,CO,FY,AO,AQ,AL,BD,AX,AC,AA,A7,AU,BH,BM,BG,AZ,CQ,DN,BR,AB,IE,BF,↓reduceIte,Nat.reduceEqDiff,oGs,bNf,enP,ha]
  exact ⟨by unfold QP; rw [ha]; rfl,trivial⟩
 ·simp -implicitDefEqProofs only [BL,A8,CJ,AY,BB,BJ,BP,CO,H7,AO,AQ,AL,BD,AX,AC,AA,EQ,A7,AU,BM,AZ,CQ,DK,↓reduceIte,Nat.reduceEqDiff,oGs,bNf,ha]
  exact ⟨by unfold QP; rw [ha]; rfl,trivial⟩
theorem AKK (G:Nat→AV) (n:Int) (h:Hp):PCall (En G) 256 [.int .i32 n] h (.bool (AIQ n)):=by
 refine CB (H:=Hint.none) (enM G) Tryz.func256 rfl (by kernel_rfl) (by kernel_rfl) (nLb (by kernel_rfl)) ?_
 show awp _ _ _ _ _ (EE _ [.tmp 2] _)
 simp -implicitDefEqProofs only [BC,BA,A8,AY,BB,BJ,BP,CO,AO,AQ,AL,BD,AX,AC,AA,A7,AU,BH,BM,BG,AZ,BR,AB,GZ,BF,↓reduceIte,Nat.reduceEqDiff,oGs,bNf,enP]
 refine G5 (fun ha => ?_) (fun ha => ?_)
 ·simp -implicitDefEqProofs only [BL,A8,CJ,AY,BB,BJ,BP,CO,FY,AO,AQ,AL,BD,AX,AC,AA,A7,AU,BH,BM,BG,AZ,CQ,DN,BR,AB,IE,BF,↓reduceIte,Nat.reduceEqDiff,oGs,bNf,enP,ha]
  exact ⟨by unfold AIQ; rw [ha]; rfl,trivial⟩
 ·simp -implicitDefEqProofs only [BL,A8,CJ,AY,BB,BJ,BP,CO,H7,AO,AQ,AL,BD,AX,AC,AA,EQ,A7,AU,BM,AZ,CQ,DK,↓reduceIte,Nat.reduceEqDiff,oGs,bNf,ha]
  exact ⟨by unfold AIQ; rw [ha]; rfl,trivial⟩
theorem AD7 (G:Nat→AV) (n:Int) (h:Hp):PCall (En G) 213 [.int .u8 n] h (.bool (QP n)):=by
 refine CB (H:=Hint.none) (enM G) Tryz.func213 rfl (by kernel_rfl) (by kernel_rfl) (nLb (by kernel_rfl)) ?_
 show awp _ _ _ _ _ (EE _ [.tmp 2] _)
 simp -implicitDefEqProofs only [BC,BA,A8,AY,BB,BJ,BP,CO,AO,AQ,AL,BD,AX,AC,AA,A7,AU,BH,BM,BG,AZ,BR,AB,GZ,BF,↓reduceIte,Nat.reduceEqDiff,oGs,bNf,enP]
 refine G5 (fun ha => ?_) (fun ha => ?_)
 ·simp -implicitDefEqProofs only [BL,A8,CJ,AY,BB,BJ,BP,CO,FY,AO,AQ,AL,BD,AX,AC,AA,A7,AU,BH,BM,BG,AZ,CQ,DN,BR,AB,IE,BF,↓reduceIte,Nat.reduceEqDiff,oGs,bNf,enP,ha]
  exact ⟨by unfold QP; rw [ha]; rfl,trivial⟩
 ·simp -implicitDefEqProofs only [BL,A8,CJ,AY,BB,BJ,BP,CO,H7,AO,AQ,AL,BD,AX,AC,AA,EQ,A7,AU,BM,AZ,CQ,DK,↓reduceIte,Nat.reduceEqDiff,oGs,bNf,ha]
  exact ⟨by unfold QP; rw [ha]; rfl,trivial⟩
theorem digit_ref (G:Nat→AV) (n:Int) (h:Hp):PCall (En G) 245 [.int .u8 n] h (.bool (AIQ n)):=by
 refine CB (H:=Hint.none) (enM G) Tryz.func245 rfl (by kernel_rfl) (by kernel_rfl) (nLb (by kernel_rfl)) ?_
 show awp _ _ _ _ _ (EE _ [.tmp 2] _)
 simp -implicitDefEqProofs only [BC,BA,A8,AY,BB,BJ,BP,CO,AO,AQ,AL,BD,AX,AC,AA,A7,AU,BH,BM,BG,AZ,BR,AB,GZ,BF,↓reduceIte,Nat.reduceEqDiff,oGs,bNf,enP]
 refine G5 (fun ha => ?_) (fun ha => ?_)
 ·simp -implicitDefEqProofs only [BL,A8,CJ,AY,BB,BJ,BP,CO,FY,AO,AQ,AL,BD,AX,AC,AA,A7,AU,BH,BM,BG,AZ,CQ,DN,BR,AB,IE,BF,↓reduceIte,Nat.reduceEqDiff,oGs,bNf,enP,ha]
  exact ⟨by unfold AIQ; rw [ha]; rfl,trivial⟩
 ·simp -implicitDefEqProofs only [BL,A8,CJ,AY,BB,BJ,BP,CO,H7,AO,AQ,AL,BD,AX,AC,AA,EQ,A7,AU,BM,AZ,CQ,DK,↓reduceIte,Nat.reduceEqDiff,oGs,bNf,ha]
  exact ⟨by unfold AIQ; rw [ha]; rfl,trivial⟩
theorem X5 (G:Nat→AV) (n:Int) (h:Hp):PCall (En G) 228 [.int .i32 n] h (.bool (NE n)):=by
 refine CB (H:=Hint.none) (enM G) Tryz.func228 rfl (by kernel_rfl) (by kernel_rfl) (nLb (by kernel_rfl)) ?_
 show awp _ _ _ _ _ (EE _ [.tmp 2] _)
 simp -implicitDefEqProofs only [BC,BA,A8,AY,BB,AO,AQ,AL,BD,AX,AC,AA,A7,AU,BX,BM,BG,AZ,BZ,BU,BF,lMc,lMn,lAn,↓reduceIte,Nat.reduceEqDiff,oGs,bNf,enP]
 refine (AB2 G n h).use ?_
 simp -implicitDefEqProofs only [AY,BJ,BP,CO,AO,AQ,AL,BD,AX,AC,AA,A7,BG,↓reduceIte,oGs,bNf]
 refine G5 (fun ha => ?_) (fun ha => ?_)
 ·simp -implicitDefEqProofs only [BL,A8,CJ,AY,BB,BJ,BP,CO,FK,QN,AO,AQ,AL,BD,AX,AC,AA,EQ,A7,AU,BM,BG,AZ,CQ,DN,↓reduceIte,Nat.reduceEqDiff,oGs,bNf,ha]
  exact ⟨by unfold NE; rw [ha]; rfl,trivial⟩
 simp -implicitDefEqProofs only [BJ,BP,CO,EK,AO,AQ,AL,BD,AX,AC,AA,A7,BX,BG,BZ,BU,BF,lMc,lMn,lAn,↓reduceIte,Nat.reduceEqDiff,oGs,bNf,ha]
 refine (AKK G n h).use ?_
 simp -implicitDefEqProofs only [AY,BJ,BP,CO,AO,AQ,AL,BD,AX,AC,AA,A7,AU,BM,BG,CQ,DK,↓reduceIte,Nat.reduceEqDiff,oGs,bNf]
 refine G5 (fun hb => ?_) (fun hb => ?_)
 ·simp -implicitDefEqProofs only [BL,A8,CJ,AY,BB,BJ,BP,CO,FK,QN,AO,AQ,AL,BD,AX,AC,AA,EQ,A7,AU,BM,BG,AZ,CQ,DN,↓reduceIte,Nat.reduceEqDiff,oGs,bNf,hb]
  exact ⟨by unfold NE; rw [ha,hb]; rfl,trivial⟩
 simp -implicitDefEqProofs only [BJ,BP,CO,EK,AO,AQ,AL,BD,AX,AC,AA,A7,AU,BH,BG,BR,AB,GZ,BF,↓reduceIte,Nat.reduceEqDiff,oGs,bNf,enP,hb]
 refine G5 (fun hc => ?_) (fun hc => ?_)
 ·simp -implicitDefEqProofs only [AY,BJ,BP,CO,FY,EK,AO,AQ,AL,BD,AX,AC,AA,A7,AU,BH,BM,BG,CQ,DN,DK,BR,AB,IE,BF,↓reduceIte,Nat.reduceEqDiff,oGs,bNf,enP,hc]
  refine G5 (fun hd => ?_) (fun hd => ?_)
  ·simp -implicitDefEqProofs only [BL,A8,CJ,AY,BB,BJ,BP,CO,FK,AO,AQ,AL,BD,AX,AC,AA,EQ,A7,AU,BM,AZ,CQ,DN,↓reduceIte,Nat.reduceEqDiff,oGs,bNf,hd]
   exact ⟨by unfold NE; rw [ha,hb,hc,hd]; rfl,trivial⟩
  ·simp -implicitDefEqProofs only [BL,A8,CJ,AY,BB,BJ,BP,CO,EK,AO,AQ,AL,BD,AX,AC,AA,A7,AU,BH,BM,BG,AZ,CQ,DK,BR,AB,DY,BF,↓reduceIte,Nat.reduceEqDiff,oGs,bNf,enP,hd]
   exact ⟨by unfold NE; rw [ha,hb,hc,hd]; rfl,trivial⟩
 ·simp -implicitDefEqProofs only [BL,A8,CJ,AY,BB,BJ,BP,CO,EK,H7,AO,AQ,AL,BD,AX,AC,AA,EQ,A7,AU,BH,BM,BG,AZ,CQ,DK,BR,AB,DY,BF,↓reduceIte,Nat.reduceEqDiff,oGs,bNf,enP,hc]
  exact ⟨by unfold NE; rw [ha,hb,hc]; rfl,trivial⟩
theorem ANP (G:Nat→AV) (n:Int) (h:Hp):PCall (En G) 215 [.int .u8 n] h (.bool (NE n)):=by
 refine CB (H:=Hint.none) (enM G) Tryz.func215 rfl (by kernel_rfl) (by kernel_rfl) (nLb (by kernel_rfl)) ?_
 show awp _ _ _ _ _ (EE _ [.tmp 2] _)
 simp -implicitDefEqProofs only [BC,BA,A8,AY,BB,AO,AQ,AL,BD,AX,AC,AA,A7,AU,BX,BM,BG,AZ,BZ,BU,BF,lMc,lMn,lAn,↓reduceIte,Nat.reduceEqDiff,oGs,bNf,enP]
 refine (AD7 G n h).use ?_
 simp -implicitDefEqProofs only [AY,BJ,BP,CO,AO,AQ,AL,BD,AX,AC,AA,A7,BG,↓reduceIte,oGs,bNf]
 refine G5 (fun ha => ?_) (fun ha => ?_)
 ·simp -implicitDefEqProofs only [BL,A8,CJ,AY,BB,BJ,BP,CO,FK,QN,AO,AQ,AL,BD,AX,AC,AA,EQ,A7,AU,BM,BG,AZ,CQ,DN,↓reduceIte,Nat.reduceEqDiff,oGs,bNf,ha]
  exact ⟨by unfold NE; rw [ha]; rfl,trivial⟩
 simp -implicitDefEqProofs only [BJ,BP,CO,EK,AO,AQ,AL,BD,AX,AC,AA,A7,BX,BG,BZ,BU,BF,lMc,lMn,lAn,↓reduceIte,Nat.reduceEqDiff,oGs,bNf,ha]
 refine (digit_ref G n h).use ?_
 simp -implicitDefEqProofs only [AY,BJ,BP,CO,AO,AQ,AL,BD,AX,AC,AA,A7,AU,BM,BG,CQ,DK,↓reduceIte,Nat.reduceEqDiff,oGs,bNf]
 refine G5 (fun hb => ?_) (fun hb => ?_)
 ·simp -implicitDefEqProofs only [BL,A8,CJ,AY,BB,BJ,BP,CO,FK,QN,AO,AQ,AL,BD,AX,AC,AA,EQ,A7,AU,BM,BG,AZ,CQ,DN,↓reduceIte,Nat.reduceEqDiff,oGs,bNf,hb]
  exact ⟨by unfold NE; rw [ha,hb]; rfl,trivial⟩
 simp -implicitDefEqProofs only [BJ,BP,CO,EK,AO,AQ,AL,BD,AX,AC,AA,A7,AU,BH,BG,BR,AB,GZ,BF,↓reduceIte,Nat.reduceEqDiff,oGs,bNf,enP,hb]
 refine G5 (fun hc => ?_) (fun hc => ?_)
 ·simp -implicitDefEqProofs only [AY,BJ,BP,CO,FY,EK,AO,AQ,AL,BD,AX,AC,AA,A7,AU,BH,BM,BG,CQ,DN,DK,BR,AB,IE,BF,↓reduceIte,Nat.reduceEqDiff,oGs,bNf,enP,hc]
  refine G5 (fun hd => ?_) (fun hd => ?_)
  ·simp -implicitDefEqProofs only [BL,A8,CJ,AY,BB,BJ,BP,CO,FK,AO,AQ,AL,BD,AX,AC,AA,EQ,A7,AU,BM,AZ,CQ,DN,↓reduceIte,Nat.reduceEqDiff,oGs,bNf,hd]
   exact ⟨by unfold NE; rw [ha,hb,hc,hd]; rfl,trivial⟩
  ·simp -implicitDefEqProofs only [BL,A8,CJ,AY,BB,BJ,BP,CO,EK,AO,AQ,AL,BD,AX,AC,AA,A7,AU,BH,BM,BG,AZ,CQ,DK,BR,AB,DY,BF,↓reduceIte,Nat.reduceEqDiff,oGs,bNf,enP,hd]
   exact ⟨by unfold NE; rw [ha,hb,hc,hd]; rfl,trivial⟩
 ·simp -implicitDefEqProofs only [BL,A8,CJ,AY,BB,BJ,BP,CO,EK,H7,AO,AQ,AL,BD,AX,AC,AA,EQ,A7,AU,BH,BM,BG,AZ,CQ,DK,BR,AB,DY,BF,↓reduceIte,Nat.reduceEqDiff,oGs,bNf,enP,hc]
  exact ⟨by unfold NE; rw [ha,hb,hc]; rfl,trivial⟩
def encStr (s:ByteArray):List AV := [.str s]
theorem encStr0 (s:ByteArray):(encStr s)[0]? = some (.str s):=rfl
def IG (xs:List ByteArray) (v:ByteArray):Bool:=xs.any fun u=>v.toList == u.toList
theorem has_ref (G:Nat→AV) (xs:List ByteArray) (m:SM) (v:ByteArray) (h:Hp) (hl:xs.length≤1099511627776) :
  PCall (En G) 243 [.sl m 1 (xs.map encStr),.str v] h (.bool (IG xs v)):=by
 refine CB (H:=Hint.none) (enM G) Tryz.func243 rfl (by kernel_rfl) (by kernel_rfl) (nLb (by kernel_rfl)) ?_
 show awp _ _ _ _ _ (EE _ [.tmp 4] _)
 simp -implicitDefEqProofs only [BC,BQ,BA,A8,AY,BB,AO,AQ,AL,BD,AX,AC,AU,BH,BM,AZ,oGs,bNf,enP]
 refine DR (fun n F H => ∃ k,n+k=xs.length∧F 0 = .sl m 1 (xs.map encStr)∧F 1 = .str v∧F 5 = .int .i64 (k:Nat)∧H=h∧IG xs v=IG (xs.drop k) v) xs.length ⟨0,by simp,rfl,rfl,rfl,rfl,rfl⟩ ?_
 rintro n F H ⟨k,hk,f0,f1,f5,rfl,hin⟩
 simp -implicitDefEqProofs only [BC,BA,BI,A8,AY,BB,AO,AQ,AL,BD,AX,AC,AA,A7,BG,BR,D6,AB,DF,↓reduceIte,Nat.reduceEqDiff,oGs,bNf,enP,Z9,f0,f1,f5,lLm]
 refine CW (fun hc => ?_) (fun hc => ?_)
 ·have hc':k < xs.length:=by simpa using hc
  have hs:IG (xs.drop k) v=((v.toList == xs[k].toList) || IG (xs.drop (k+1)) v):=KF _ xs k hc'
  simp -implicitDefEqProofs only [BC,BQ,BA,BO,BI,A8,AY,BB,AO,AQ,AL,BD,AX,AC,AA,A7,BG,BV,BR,CG,AB,LC,↓reduceIte,Nat.reduceEqDiff,oGs,bNf,enP,AEK,f0,f1,f5,D5 hc',DT ag9 hc',encStr0]
  refine CW (fun hb => ?_) (fun hb => ?_)
  ·simp -implicitDefEqProofs only [BC,BA,BL,A8,CP,D8,FB,CJ,AY,BB,AO,AQ,AL,BD,AX,AC,AA,AU,BM,AZ,↓reduceIte,oGs,bNf]
   refine ⟨?_,trivial⟩
   rw [hin,hs,show (v.toList == xs[k].toList)=true by rw [BEq.comm]; exact hb]; rfl
  ·simp -implicitDefEqProofs only [BA,BO,A8,EF,ER,AY,BB,AO,AQ,AL,BD,AX,AC,AA,A7,AU,BH,BG,AZ,BR,AB,DI,↓reduceIte,Nat.reduceEqDiff,oGs,bNf,enP,f5,wrap_succ (show k < 9223372036854775807 by omega)]
   refine ⟨n - 1,by omega,k+1,by omega,f0,f1,rfl,trivial,?_⟩
   rw [hin,hs,show (v.toList == xs[k].toList)=false by rw [BEq.comm]; exact hb]; rfl
 ·have hc' : ¬ k < xs.length:=by simpa using hc
  simp -implicitDefEqProofs only [BC,BA,BL,DL,A8,EC,EY,EW,CJ,AY,BB,AO,AQ,AL,BD,AX,AC,AA,AU,BM,AZ,↓reduceIte,oGs,bNf]
  exact ⟨by rw [hin,List.drop_eq_nil_of_le (by omega)]; rfl,trivial⟩
theorem AKD (G:Nat→AV) (xs:List ByteArray) (m:SM) (v:ByteArray) (h:Hp) (hl:xs.length≤1099511627776) :
  ∃ i:Int,(decide (i≥0)=IG xs v)∧PCall (En G) 257 [.sl m 1 (xs.map encStr),.str v] h (.int .i64 i):=by
 refine ⟨(match xs.findIdx? (fun u=>v.toList == u.toList) with | some i=>(i:Int) | none => -1),?_,?_⟩
 ·cases hx:xs.findIdx? (fun u=>v.toList == u.toList) with
  | some i =>
    obtain ⟨h1,h2,_⟩:=List.findIdx?_eq_some_iff_getElem.1 hx
    have:IG xs v=true:=List.any_eq_true.2 ⟨xs[i],by simp,h2⟩
    simp [this]
  | none =>
    have:IG xs v=false:=by
     rw [List.findIdx?_eq_none_iff] at hx
     unfold IG
     rw [List.any_eq_false]; intro x hx2; simp only [hx x hx2]; simp
    simp [this]
 refine CB (H:=Hint.none) (enM G) Tryz.func257 rfl (by kernel_rfl) (by kernel_rfl) (nLb (by kernel_rfl)) ?_
 show awp _ _ _ _ _ (EE _ [.tmp 4] _)
 simp -implicitDefEqProofs only [BC,BQ,BA,A8,AY,BB,AO,AQ,AL,BD,AX,AC,AA,A7,AU,BH,BG,AZ,D6,AB,BF,↓reduceIte,Nat.reduceEqDiff,oGs,bNf,enP,Z9,lLm]
 refine DR (fun n F H => ∃ k,n+k=xs.length∧F 0 = .sl m 1 (xs.map encStr)∧F 1 = .str v∧F 7 = .int .i64 xs.length∧F 8 = .int .i64 (k:Nat)∧H=h∧(xs.take k).all (fun u => !(v.toList == u.toList))=true) xs.length ⟨0,by simp,rfl,rfl,rfl,rfl,rfl,rfl⟩ ?_
 rintro n F H ⟨k,hk,f0,f1,f7,f8,rfl,hin⟩
 simp -implicitDefEqProofs only [BC,BA,BI,A8,AY,BB,AO,AQ,AL,BD,AX,AC,AA,A7,BR,AB,DF,↓reduceIte,oGs,bNf,enP,f0,f1,f7,f8,lLm]
 refine CW (fun hc => ?_) (fun hc => ?_)
 ·have hc':k < xs.length:=by simpa using hc
  simp -implicitDefEqProofs only [BC,BQ,BA,BO,BI,A8,AY,BB,AO,AQ,AL,BD,AX,AC,AA,A7,BG,AZ,BV,BR,CG,AB,LC,↓reduceIte,Nat.reduceEqDiff,oGs,bNf,enP,AEK,f0,f1,f7,f8,D5 hc',DT ag9 hc',encStr0]
  refine CW (fun hb => ?_) (fun hb => ?_)
  ·simp -implicitDefEqProofs only [BC,BA,BL,A8,CP,D8,FB,CJ,AY,BB,AO,AQ,AL,BD,AX,AC,AA,A7,BG,AZ,↓reduceIte,Nat.reduceEqDiff,oGs,bNf]
   refine ⟨?_,trivial⟩
   rw [List.findIdx?_eq_some_iff_getElem.2 ⟨hc',hb,fun j hj=>by
    rw [List.all_eq_true] at hin
    have:=hin xs[j] (by rw [List.mem_take_iff_getElem]; exact ⟨j,by omega,rfl⟩)
    simpa using this⟩]
  ·simp -implicitDefEqProofs only [BA,BO,A8,EF,ER,AY,BB,AO,AQ,AL,BD,AX,AC,AA,A7,AU,BH,BG,BR,AB,DI,↓reduceIte,Nat.reduceEqDiff,oGs,bNf,enP,f8,wrap_succ (show k < 9223372036854775807 by omega)]
   refine ⟨n - 1,by omega,k+1,by omega,f0,f1,f7,rfl,trivial,?_⟩
   rw [List.take_succ_eq_append_getElem hc',List.all_append,hin]
   simp only [List.all_cons,List.all_nil,hb]; rfl
 ·have hc' : ¬ k < xs.length:=by simpa using hc
  simp -implicitDefEqProofs only [BC,BA,BL,DL,A8,EC,EY,EW,CJ,AY,BB,AO,AQ,AL,BD,AX,AC,AA,AU,BH,AZ,↓reduceIte,oGs,bNf]
  refine ⟨?_,trivial⟩
  rw [List.take_of_length_le (by omega)] at hin
  rw [List.findIdx?_eq_none_iff.2 (by
   intro x hx
   rw [List.all_eq_true] at hin
   simpa using hin x hx)]
theorem ADV (G:Nat→AV) (xs:List ByteArray) (m:SM) (v:ByteArray) (h:Hp) (hl:xs.length≤1099511627776) :
  PCall (En G) 229 [.sl m 1 (xs.map encStr),.str v] h (.bool (IG xs v)):=by
 obtain ⟨i,hi,hp⟩:=AKD G xs m v h hl
 refine CB (H:=Hint.none) (enM G) Tryz.func229 rfl (by kernel_rfl) (by kernel_rfl) (nLb (by kernel_rfl)) ?_
 show awp _ _ _ _ _ (EE _ [.tmp 4] _)
 simp -implicitDefEqProofs only [BC,BA,A8,AY,BB,AO,AQ,AL,BD,AX,AC,AA,A7,AU,BX,BM,BG,AZ,BZ,BU,BF,BN,lMc,lMn,lAn,↓reduceIte,Nat.reduceEqDiff,oGs,bNf,enP]
 refine hp.use ?_
 simp -implicitDefEqProofs only [BL,A8,CJ,AY,BB,AO,AQ,AL,BD,AX,AC,AA,A7,AU,BH,AZ,BR,AB,GZ,↓reduceIte,oGs,bNf,enP]
 exact ⟨by rw [hi],trivial⟩
def kw:List ByteArray := [⟨#[99,108,97,115,115]⟩,⟨#[101,120,116,101,110,100,115]⟩,⟨#[114,97,110,100]⟩,⟨#[114,97,110,100,99]⟩,⟨#[115,116,97,116,101]⟩,⟨#[99,111,110,115,116,114,97,105,110,116]⟩,⟨#[115,111,102,116]⟩,⟨#[100,105,115,116]⟩,⟨#[105,102]⟩,⟨#[101,108,115,101]⟩,⟨#[101,97,99,104]⟩,⟨#[105,110]⟩,⟨#[115,111,108,118,101]⟩,⟨#[98,101,102,111,114,101]⟩,⟨#[105,110,115,105,100,101]⟩,⟨#[112,114,111,112,101,114,116,121]⟩,⟨#[115,101,113]⟩,⟨#[97,110,100]⟩,⟨#[111,114]⟩,⟨#[110,111,116]⟩,⟨#[115,101,116]⟩,⟨#[104,111,108,100]⟩,⟨#[112,108,97,105,110]⟩,⟨#[114,101,112,101,97,116]⟩]
theorem AP4:kw.length=24:=rfl
theorem AFU (G:Nat→AV) (h:Hp):PCall (En G) 244 [] h (.sl .full 1 (kw.map encStr)):=by
 refine CB (H:=Hint.none) (enM G) Tryz.func244 rfl (by kernel_rfl) (by kernel_rfl) (nLb (by kernel_rfl)) ?_
 show awp _ _ _ _ _ (EE _ [.tmp 0] _)
 simp -implicitDefEqProofs only [FT,F6,BC,BA,A8,AY,BB,AO,AQ,AL,BD,AX,AC,AU,IP,JD,AZ,ES,oGs,bNf,enP]
 refine KJ (v := .sl .full 1 (kw.map encStr)) (h:=h) (by kernel_rfl) ?_
 simp -implicitDefEqProofs only [BL,A8,CJ,AY,BB,AO,AQ,AL,BD,AX,AC,AA,A7,AZ,↓reduceIte,oGs,bNf]
 exact ⟨trivial,trivial⟩
theorem ADQ (G:Nat→AV) (v:ByteArray) (h:Hp):PCall (En G) 214 [.str v] h (.bool (IG kw v)):=by
 refine CB (H:=Hint.none) (enM G) Tryz.func214 rfl (by kernel_rfl) (by kernel_rfl) (nLb (by kernel_rfl)) ?_
 show awp _ _ _ _ _ (EE _ [.tmp 2] _)
 simp -implicitDefEqProofs only [BC,BA,A8,AY,BB,AO,AQ,AL,BD,AX,AC,AU,BX,BM,AZ,BZ,BU,lMn,lAn,oGs,bNf,enP]
 refine (AFU G h).use ?_
 simp -implicitDefEqProofs only [AY,AO,AQ,AL,BD,AX,AC,AA,A7,BX,BG,BZ,BU,BF,lMc,lMn,lAn,↓reduceIte,Nat.reduceEqDiff,oGs,bNf]
 refine (has_ref G kw .full v h (by rw [AP4]; omega)).use ?_
 simp -implicitDefEqProofs only [BL,A8,CJ,AY,BB,AO,AQ,AL,BD,AX,AC,AA,A7,AZ,↓reduceIte,oGs,bNf]
 exact ⟨trivial,trivial⟩
def KwG (G:Nat→AV):Prop := ∃ m,G 0 = .fptr 1 [[.sl m 1 (kw.map encStr)]] 0 0
theorem AB6 (G:Nat→AV) (hG:KwG G) (v:ByteArray) (h:Hp):PCall (En G) 195 [.str v] h (.bool (IG kw v)):=by
 obtain ⟨m,hg⟩:=hG
 refine CB (H:=Hint.none) (enM G) Tryz.func195 rfl (by kernel_rfl) (by kernel_rfl) (nLb (by kernel_rfl)) ?_
 show awp _ _ _ _ _ (EE _ [.tmp 2] _)
 have e:DZ Tryz.prog h 179 (G 0)=some (.sl m 1 (kw.map encStr)):=by rw [hg]; exact QH AFA rfl rfl
 have hl:kw.length≤1099511627776:=by rw [AP4]; omega
 simp -implicitDefEqProofs only [BC,BA,A8,AY,BB,AO,AQ,AL,BD,AX,AC,AA,A7,AU,BX,ATY,BM,BG,AZ,BV,BZ,BU,AB,BF,lMc,lMn,lAn,↓reduceIte,Nat.reduceEqDiff,oGs,bNf,enP,enG,e]
 refine (ADV G kw m v h hl).use ?_
 simp -implicitDefEqProofs only [BL,A8,CJ,AY,BB,AO,AQ,AL,BD,AX,AC,AA,A7,AZ,↓reduceIte,oGs,bNf]
 exact ⟨trivial,trivial⟩
def RG (s:ByteArray):Bool:=(match s.data.toList with | []=>false | b :: _=>QP b.toNat) && s.data.toList.all fun b=>NE b.toNat
def G8 (s:ByteArray):Bool:=RG s && decide (s.size≤16) && !IG kw s
theorem ZF {n:Int} (h:NE n=true):n < 128:=by
 simp only [NE,QP,AIQ,Bool.or_eq_true,Bool.and_eq_true,decide_eq_true_eq,beq_iff_eq] at h
 omega
theorem ASV (h:Hp) (s:ByteArray):ZU Tryz.prog h 9 (.str s)=some (.ptr h.length 0 0,h ++ [.iter s 0]):=by
 have:Tryz.prog.underlying 9=some .string:=by kernel_rfl
 simp [ZU,this]
theorem ATA {h:Hp} {s:ByteArray} {pos:Nat} (hp:pos < s.size):AAO (h ++ [.iter s pos]) (.ptr h.length 0 0) true=some (.tup [.bool true,.int .i64 pos,.int .i32 (Utf8.decode s pos).1],h ++ [.iter s (pos+(Utf8.decode s pos).2)]):=by
 simp [AAO,hp]
theorem APV {h:Hp} {s:ByteArray} {pos:Nat} (hp : ¬ pos < s.size):AAO (h ++ [.iter s pos]) (.ptr h.length 0 0) true=some (.tup [.bool false],h ++ [.iter s pos]):=by
 simp [AAO,hp]
theorem SK {s:ByteArray} {k:Nat} (hk:k < s.size) (hb:NE (s[k]'hk).toNat=false):RG s=false:=by
 unfold RG
 have:(s.data.toList.all fun b=>NE b.toNat)=false:=by
  rw [List.all_eq_false]
  exact ⟨s[k],Array.getElem_mem_toList (xs:=s.data) hk,by simp [hb]⟩
 rw [this]; simp
theorem ZW {s:ByteArray} (hk:0 < s.size) (hb:QP (s[0]'hk).toNat=false):RG s=false:=by
 unfold RG
 have:(match s.data.toList with | []=>false | b :: _=>QP b.toNat)=false:=by
  cases hl:s.data.toList with
  | nil=>rfl
  | cons b l =>
    have h0:s[0]'hk=b:=by
     have:s.data.toList[0]? = some b:=by rw [hl]; rfl
     have h2:s.data[0]? = some b:=by rw [← Array.getElem?_toList]; exact this
     have hk':0 < s.data.size:=hk
     rw [Array.getElem?_eq_getElem hk'] at h2
     exact Option.some.inj h2
    simp only
    rw [← h0]; exact hb
 rw [this]; simp
theorem AG1 {s:ByteArray} (hk:0 < s.size) (hb:QP (s[0]'hk).toNat=true) (ha : ∀ i (hi:i < s.size),NE (s[i]'hi).toNat=true):RG s=true:=by
 unfold RG
 have h1:(match s.data.toList with | []=>false | b :: _=>QP b.toNat)=true:=by
  cases hl:s.data.toList with
  | nil =>
    have:s.data.toList.length=0:=by rw [hl]; rfl
    have h2:s.data.size=0:=by simpa using this
    have h3:s.size=s.data.size:=rfl
    omega
  | cons b l =>
    have h0:s[0]'hk=b:=by
     have:s.data.toList[0]? = some b:=by rw [hl]; rfl
     have h2:s.data[0]? = some b:=by rw [← Array.getElem?_toList]; exact this
     have hk':0 < s.data.size:=hk
     rw [Array.getElem?_eq_getElem hk'] at h2
     exact Option.some.inj h2
    simp only
    rw [← h0]; exact hb
 rw [h1,Bool.true_and,List.all_eq_true]
 intro b hbm
 obtain ⟨i,hi,rfl⟩:=List.getElem_of_mem hbm
 have hi':i < s.size:=by simpa using hi
 exact ha i hi'
theorem AMW (G:Nat→AV) (s:ByteArray) (h:Hp) (hl:s.size≤1099511627776):PCall (En G) 194 [.str s] h (.bool (RG s)):=by
 refine ACalls.pure0 rfl ?_
 refine CB (H:=Hint.none) (enM G) Tryz.func194 rfl (by kernel_rfl) (by kernel_rfl) (nLb (by kernel_rfl)) ?_
 show awp _ _ _ _ _ (EE _ [.tmp 2] _)
 simp -implicitDefEqProofs only [BC,BQ,BA,A8,AY,BB,AO,AQ,AL,BD,AX,AC,AA,A7,AU,BM,BG,AZ,AR8,CE,BF,↓reduceIte,Nat.reduceEqDiff,oGs,bNf,enP,ASV]
 refine DR (fun n F H => ∃ k,n+k=s.size∧F 0 = .str s∧F 6 = .ptr h.length 0 0∧H=h ++ [.iter s k]∧(∀ i (hi:i < s.size),i < k→NE (s[i]'hi).toNat=true)∧(∀ hp:0 < s.size,0 < k→QP (s[0]'hp).toNat=true)) s.size ⟨0,by simp,rfl,by simp -implicitDefEqProofs only [AA,↓reduceIte],rfl,fun _ _ h=>absurd h (by omega),fun _ h=>absurd h (by omega)⟩ ?_
 rintro n F H ⟨k,hk,f0,f6,rfl,hall,h0⟩
 rcases Classical.em (k < s.size) with hp | hp
 ·have go : ∀ (r:Nat × Nat),Utf8.decode s k=r→(NE r.1=true→r=((s[k]'hp).toNat,1)∧NE (s[k]'hp).toNat=true)∧(NE r.1=false→RG s=false)∧(QP r.1=false→k=0→RG s=false)∧(QP r.1=true→NE r.1=true):=by
   rintro r rfl
   have lf : ∀ n,QP n=true→NE n=true:=fun n hn=>by unfold NE; rw [hn]; rfl
   rcases Nat.lt_or_ge (s[k]'hp).toNat 128 with ha | ha
   ·have hd:=decode_ascii s k hp ha
    rw [hd]
    exact ⟨fun hf=>⟨rfl,hf⟩,fun hf=>SK hp hf,fun hf h0=>by subst h0; exact ZW hp hf,lf _⟩
   ·have hd:=(decode_high s k hp ha).1
    refine ⟨fun hf => ?_,fun _ => ?_,fun _ h0 => ?_,lf _⟩
    ·have:=ZF hf; omega
    ·refine SK hp ?_
     cases hf:NE (s[k]'hp).toNat with
     | false=>rfl
     | true=>have:=ZF hf; omega
    ·refine SK hp ?_
     cases hf:NE (s[k]'hp).toNat with
     | false=>rfl
     | true=>have:=ZF hf; omega
  simp -implicitDefEqProofs only [List.getElem?_cons_zero,List.getElem?_cons_succ,BC,BQ,BA,BO,BI,A8,C9,AY,BB,BJ,BP,CO,AO,AQ,AL,BD,AX,AC,AA,A7,AU,BH,BG,AZ,BR,AOT,FW,IB,CE,AB,DY,↓reduceIte,Nat.reduceEqDiff,oGs,bNf,enP,f0,f6,ATA hp]
  generalize hr:Utf8.decode s k=r at go
  obtain ⟨g1,g2,g3,g4⟩:=go r rfl
  have done : ∀ H',NE r.1=true→(k=0→QP r.1=true)→H'=h ++ [ABlk.iter s (k+r.2)]→∃ m,m < n∧∃ k',m+k'=s.size∧H'=h ++ [.iter s k']∧(∀ i (hi:i < s.size),i < k'→NE (s[i]'hi).toNat=true)∧(∀ hp:0 < s.size,0 < k'→QP (s[0]'hp).toNat=true):=by
   intro H' hf hlw hH
   obtain ⟨e1,e2⟩:=g1 hf
   refine ⟨n - 1,by omega,k+1,by omega,by rw [hH,e1],fun i hi hik => ?_,fun hp0 _ => ?_⟩
   ·rcases Nat.lt_or_ge i k with h' | h'
    ·exact hall i hi h'
    ·have:i=k:=by omega
     subst this; exact e2
   ·rcases Nat.eq_zero_or_pos k with h' | h'
    ·subst h'; have:=hlw rfl; rw [e1] at this; exact this
    ·exact h0 hp0 h'
  refine G5 (fun ha => ?_) (fun ha => ?_)
  ·have hk0:k=0:=by simp at ha; omega
   simp -implicitDefEqProofs only [BJ,BP,CO,FY,AO,AQ,AL,BD,AX,AC,AA,A7,BX,BG,BZ,BU,lMc,lMn,lAn,↓reduceIte,Nat.reduceEqDiff,oGs,bNf,ha]
   refine (AB2 G _ _).use ?_
   simp -implicitDefEqProofs only [AY,BJ,BP,CO,FY,AO,AQ,AL,BD,AX,AC,AA,A7,AU,BM,BG,CQ,DN,G6,AB,EX,↓reduceIte,Nat.reduceEqDiff,oGs,bNf]
   refine G5 (fun hb => ?_) (fun hb => ?_)
   ·simp -implicitDefEqProofs only [BC,BA,BL,BI,A8,CP,D8,FB,CJ,C9,AY,BB,BJ,BP,CO,FK,AO,AQ,AL,BD,AX,AC,AA,EQ,A7,AU,BM,AZ,CQ,DN,↓reduceIte,Nat.reduceEqDiff,oGs,bNf,hb]
    have hlw:QP r.1=false:=by simpa using hb
    exact ⟨by rw [g3 hlw hk0],_,rfl⟩
   have hlw:QP r.1=true:=by simpa using hb
   simp -implicitDefEqProofs only [BJ,BP,CO,EK,AO,AQ,AL,BD,AX,AC,AA,A7,BX,BG,BZ,BU,lMc,lMn,lAn,↓reduceIte,Nat.reduceEqDiff,oGs,bNf,hb]
   refine (X5 G _ _).use ?_
   simp -implicitDefEqProofs only [BI,A8,AY,BB,BJ,BP,CO,EK,AO,AQ,AL,BD,AX,AC,AA,A7,AU,BM,CQ,DK,G6,AB,EX,↓reduceIte,Nat.reduceEqDiff,oGs,bNf]
   have hf:=g4 hlw
   simp -implicitDefEqProofs only [BO,EF,ER,DU,AA,↓reduceIte,Nat.reduceEqDiff,bNt,hf]
   obtain ⟨m,h1,k',h2,h3,h4,h5⟩:=done _ hf (fun _=>hlw) rfl
   exact ⟨m,h1,k',h2,f0,f6,h3,h4,h5⟩
  ·have hk0:k≠0:=by intro e; subst e; simp at ha
   simp -implicitDefEqProofs only [AY,BJ,BP,CO,EK,H7,AO,AQ,AL,BD,AX,AC,AA,EQ,A7,AU,BX,BM,BG,CQ,DK,BZ,BU,lMc,lMn,lAn,↓reduceIte,Nat.reduceEqDiff,oGs,bNf,ha]
   refine (X5 G _ _).use ?_
   simp -implicitDefEqProofs only [BI,A8,AY,BB,BJ,BP,CO,EK,AO,AQ,AL,BD,AX,AC,AA,A7,AU,BM,CQ,DK,G6,AB,EX,↓reduceIte,Nat.reduceEqDiff,oGs,bNf]
   refine CW (fun hb => ?_) (fun hb => ?_)
   ·have hf:NE r.1=false:=by simpa using hb
    simp -implicitDefEqProofs only [BC,BA,BL,A8,CP,D8,FB,CJ,AY,BB,AO,AQ,AL,BD,AX,AC,AA,AU,BM,AZ,↓reduceIte,oGs,bNf]
    exact ⟨by rw [g2 hf],_,rfl⟩
   ·have hf:NE r.1=true:=by simpa using hb
    simp -implicitDefEqProofs only [BO,EF,ER,AA,↓reduceIte,Nat.reduceEqDiff]
    obtain ⟨m,h1,k',h2,h3,h4,h5⟩:=done _ hf (fun e=>absurd e hk0) rfl
    exact ⟨m,h1,k',h2,f0,f6,h3,h4,h5⟩
 ·simp -implicitDefEqProofs only [List.getElem?_cons_zero,BC,BA,BL,DL,BI,A8,EC,EY,EW,CJ,DU,AY,BB,AO,AQ,AL,BD,AX,AC,AA,A7,AU,IP,BG,AZ,BR,AOT,FW,IB,CE,AB,AC2,↓reduceIte,Nat.reduceEqDiff,oGs,bNf,enP,f0,f6,APV hp]
  have hks:k=s.size:=by omega
  refine ⟨?_,_,rfl⟩
  congr 1
  rcases Nat.eq_zero_or_pos s.size with hz | hz
  ·have:s=⟨#[]⟩:=by
    obtain ⟨d⟩:=s
    have:d.size=0:=hz
    rw [Array.eq_empty_of_size_eq_zero this]
   subst this
   rw [ByteArray.toList_eq]
   rfl
  ·rw [AG1 hz (h0 hz (by omega)) (fun i hi=>hall i hi (by omega))]
   have hne:s.toList≠[]:=by
    rw [ByteArray.toList_eq]
    intro e
    have:s.data.toList.length=0:=by rw [e]; rfl
    have h2:s.data.size=0:=by simpa using this
    have h3:s.size=s.data.size:=rfl
    omega
   cases hl2:s.toList with
   | nil=>exact absurd hl2 hne
   | cons=>rw [ByteArray.toList_eq]; rfl
theorem NT (G:Nat→AV) (hG:KwG G) (s:ByteArray) (h:Hp) (hl:s.size≤1099511627776):PCall (En G) 150 [.str s] h (.bool (G8 s)):=by
 refine CB (H:=Hint.none) (enM G) Tryz.func150 rfl (by kernel_rfl) (by kernel_rfl) (nLb (by kernel_rfl)) ?_
 show awp _ _ _ _ _ (EE _ [.tmp 2] _)
 simp -implicitDefEqProofs only [BC,BA,A8,AY,BB,AO,AQ,AL,BD,AX,AC,AA,A7,AU,BX,BM,BG,AZ,BZ,BU,BF,lMc,lMn,lAn,↓reduceIte,Nat.reduceEqDiff,oGs,bNf,enP]
 refine (AMW G s h hl).use ?_
 simp -implicitDefEqProofs only [AY,BJ,BP,CO,AO,AQ,AL,BD,AX,AC,AA,A7,BG,↓reduceIte,oGs,bNf]
 refine G5 (fun ha => ?_) (fun ha => ?_)
 ·simp -implicitDefEqProofs only [AY,BJ,BP,CO,FY,AO,AQ,AL,BD,AX,AC,AA,A7,AU,BH,BM,BG,CQ,DN,BR,D6,AB,IE,BF,↓reduceIte,Nat.reduceEqDiff,oGs,bNf,enP,ln9,ha]
  refine G5 (fun hb => ?_) (fun hb => ?_)
  ·simp -implicitDefEqProofs only [BJ,BP,CO,FY,AO,AQ,AL,BD,AX,AC,AA,A7,BX,BG,BZ,BU,BF,lMc,lMn,lAn,↓reduceIte,Nat.reduceEqDiff,oGs,bNf,hb]
   refine (AB6 G hG s h).use ?_
   simp -implicitDefEqProofs only [BL,A8,CJ,AY,BB,BJ,BP,CO,FY,AO,AQ,AL,BD,AX,AC,AA,A7,AU,BM,AZ,CQ,DN,G6,AB,EX,↓reduceIte,Nat.reduceEqDiff,oGs,bNf]
   refine ⟨?_,trivial⟩
   have:decide (s.size≤16)=true:=by simp at hb ⊢; omega
   unfold G8; rw [ha,this]; rfl
  ·simp -implicitDefEqProofs only [BL,A8,CJ,AY,BB,BJ,BP,CO,H7,AO,AQ,AL,BD,AX,AC,AA,EQ,A7,AU,BM,AZ,CQ,DK,↓reduceIte,Nat.reduceEqDiff,oGs,bNf,hb]
   refine ⟨?_,trivial⟩
   have:decide (s.size≤16)=false:=by simp at hb ⊢; omega
   unfold G8; rw [ha,this]; rfl
 ·simp -implicitDefEqProofs only [BL,A8,CJ,AY,BB,BJ,BP,CO,H7,AO,AQ,AL,BD,AX,AC,AA,EQ,A7,AU,BM,BG,AZ,CQ,DK,↓reduceIte,Nat.reduceEqDiff,oGs,bNf,ha]
  exact ⟨by unfold G8; rw [ha]; rfl,trivial⟩
theorem ix9 (s:ByteArray) (k:Nat) (kk:IntKind) (hk:k < s.size):NK Tryz.prog 9 (.str s) (.int kk (k:Int))=some (.int .u8 (s[k]'hk).toNat):=by
 have hu:Tryz.prog.underlying 9=some .string:=by kernel_rfl
 have h0:(0:Int)≤(k:Int):=by omega
 have:s[k]? = some (s[k]'hk):=by simp [hk]
 simp [NK,hu,h0,this]
theorem OW (G:Nat→AV) (s:ByteArray) (h:Hp):PCall (En G) 160 [.str s] h (.bool (G8 s)):=by
 refine CB (H:=Hint.none) (enM G) Tryz.func160 rfl (by kernel_rfl) (by kernel_rfl) (nLb (by kernel_rfl)) ?_
 show awp _ _ _ _ _ (EE _ [.tmp 2] _)
 simp -implicitDefEqProofs only [BC,BA,A8,AY,BB,BJ,BP,CO,AO,AQ,AL,BD,AX,AC,AA,A7,AU,BM,IP,BG,AZ,BR,AB,LC,BF,↓reduceIte,Nat.reduceEqDiff,oGs,bNf,enP]
 refine G5 (fun ha => ?_) (fun ha => ?_)
 ·simp -implicitDefEqProofs only [BC,BA,BL,BI,A8,CP,CJ,C9,AY,BB,BJ,BP,CO,FK,AO,AQ,AL,BD,AX,AC,AA,EQ,A7,AU,BM,BG,AZ,CQ,DN,↓reduceIte,Nat.reduceEqDiff,oGs,bNf,ha]
  refine ⟨?_,trivial⟩
  have:s.data.toList = []:=by
   rw [ByteArray.toList_eq,ByteArray.toList_eq] at ha
   have:=beq_iff_eq.1 ha
   exact this
  unfold G8 RG; rw [this]; rfl
 have hz:0 < s.size:=by
  rcases Nat.eq_zero_or_pos s.size with hz | hz
  ·have:s=⟨#[]⟩:=by
    obtain ⟨d⟩:=s
    have:d.size=0:=hz
    rw [Array.eq_empty_of_size_eq_zero this]
   rw [this] at ha
   simp at ha
  ·exact hz
 simp -implicitDefEqProofs only [AY,BJ,BP,CO,EK,AO,AQ,AL,BD,AX,AC,AA,A7,AU,BH,BM,BG,CQ,DK,BR,D6,AB,EZ,BF,↓reduceIte,Nat.reduceEqDiff,oGs,bNf,enP,ln9,ha]
 refine G5 (fun hb => ?_) (fun hb => ?_)
 ·simp -implicitDefEqProofs only [BC,BA,BL,BI,A8,CP,CJ,C9,AY,BB,BJ,BP,CO,FK,AO,AQ,AL,BD,AX,AC,AA,EQ,A7,AU,BM,BG,AZ,CQ,DN,↓reduceIte,Nat.reduceEqDiff,oGs,bNf,hb]
  refine ⟨?_,trivial⟩
  have:decide (s.size≤16)=false:=by simp at hb ⊢; omega
  unfold G8; rw [this]; simp
 have h16:decide (s.size≤16)=true:=by simp at hb ⊢; omega
 simp -implicitDefEqProofs only [BJ,BP,CO,EK,AO,AQ,AL,BD,AX,AC,AA,A7,AU,BH,BG,N8,BF,↓reduceIte,Nat.reduceEqDiff,oGs,bNf,enP,hb]
 refine KJ (v := .int .u8 (s[0]'hz).toNat) (h:=h) (by rw [show (0:Int)=((0:Nat):Int) from rfl,ix9 s 0 .i64 hz]; rfl) ?_
 simp -implicitDefEqProofs only [BJ,BP,CO,EK,AO,AQ,AL,BD,AX,AC,AA,A7,BX,BZ,BU,lMc,lMn,lAn,↓reduceIte,Nat.reduceEqDiff,oGs,bNf]
 refine (AD7 G _ h).use ?_
 simp -implicitDefEqProofs only [AY,BJ,BP,CO,EK,AO,AQ,AL,BD,AX,AC,AA,A7,AU,BM,BG,CQ,DK,G6,AB,EX,↓reduceIte,Nat.reduceEqDiff,oGs,bNf]
 refine G5 (fun hc => ?_) (fun hc => ?_)
 ·simp -implicitDefEqProofs only [BC,BA,BL,BI,A8,CP,CJ,C9,AY,BB,BJ,BP,CO,FK,AO,AQ,AL,BD,AX,AC,AA,EQ,A7,AU,BM,AZ,CQ,DN,↓reduceIte,Nat.reduceEqDiff,oGs,bNf,hc]
  refine ⟨?_,trivial⟩
  unfold G8; rw [ZW hz (by simpa using hc)]; rfl
 simp -implicitDefEqProofs only [BJ,BP,CO,EK,AO,AQ,AL,BD,AX,AC,AA,A7,BX,BG,BZ,BU,BF,lMc,lMn,lAn,↓reduceIte,Nat.reduceEqDiff,oGs,bNf,hc]
 refine (ADQ G s h).use ?_
 simp -implicitDefEqProofs only [BI,A8,AY,BB,AO,AQ,AL,BD,AX,AC,AA,A7,AU,BM,CQ,DK,↓reduceIte,Nat.reduceEqDiff,oGs,bNf]
 refine CW (fun hd => ?_) (fun hd => ?_)
 ·simp -implicitDefEqProofs only [BC,BA,BL,A8,CP,CJ,AY,BB,AO,AQ,AL,BD,AX,AC,AA,AU,BM,AZ,↓reduceIte,oGs,bNf]
  refine ⟨?_,trivial⟩
  unfold G8; rw [hd]; simp
 simp -implicitDefEqProofs only [BC,BQ,BA,BO,A8,AY,BB,AO,AQ,AL,BD,AX,AC,AU,BH,AZ,oGs,bNf]
 have hlow:QP (s[0]'hz).toNat=true:=by simpa using hc
 refine DR (fun n F H => ∃ k,n+k=s.size∧F 0 = .str s∧F 3 = .int .i64 (k:Nat)∧H=h∧(∀ i (hi:i < s.size),i < k→NE (s[i]'hi).toNat=true)) s.size ⟨0,by simp,by simp -implicitDefEqProofs only [AA,BF,↓reduceIte,Nat.reduceEqDiff],by simp -implicitDefEqProofs only [AA,↓reduceIte]; rfl,rfl,fun _ _ h=>absurd h (by omega)⟩ ?_
 rintro n F H ⟨k,hk,f0,f3,rfl,hall⟩
 simp -implicitDefEqProofs only [BC,BA,BI,A8,AY,BB,AO,AQ,AL,BD,AX,AC,AA,A7,BG,BR,D6,AB,DF,↓reduceIte,Nat.reduceEqDiff,oGs,bNf,enP,ln9,f0,f3]
 refine CW (fun he => ?_) (fun he => ?_)
 ·have hk':k < s.size:=by simpa using he
  simp -implicitDefEqProofs only [BC,BQ,BA,BO,A8,AY,AO,AQ,AL,BD,AX,AC,AA,A7,BX,BG,N8,BZ,BU,AB,lMc,lMn,lAn,↓reduceIte,Nat.reduceEqDiff,oGs,bNf,enP,f0,f3,ix9 s k .i64 hk']
  refine (ANP G _ _).use ?_
  simp -implicitDefEqProofs only [BI,A8,AY,BB,AO,AQ,AL,BD,AX,AC,AA,A7,G6,AB,EX,↓reduceIte,oGs,bNf]
  refine CW (fun hf => ?_) (fun hf => ?_)
  ·simp -implicitDefEqProofs only [BC,BA,BL,A8,CP,D8,FB,CJ,AY,BB,AO,AQ,AL,BD,AX,AC,AA,AU,BM,AZ,↓reduceIte,oGs,bNf]
   refine ⟨?_,trivial⟩
   unfold G8; rw [SK hk' (by simpa using hf)]; rfl
  ·simp -implicitDefEqProofs only [BA,BO,A8,EF,ER,AY,BB,AO,AQ,AL,BD,AX,AC,AA,A7,AU,BH,BG,AZ,BR,AB,DI,↓reduceIte,Nat.reduceEqDiff,oGs,bNf,enP,f3,wrap_succ (show k < 9223372036854775807 by simp at h16; omega)]
   refine ⟨n - 1,by omega,k+1,by omega,f0,rfl,trivial,fun i hi hik => ?_⟩
   rcases Nat.lt_or_ge i k with h' | h'
   ·exact hall i hi h'
   ·have:i=k:=by omega
    subst this; simpa using hf
 ·have hk' : ¬ k < s.size:=by simpa using he
  simp -implicitDefEqProofs only [BC,BA,BL,DL,A8,EC,EY,EW,CJ,AY,BB,AO,AQ,AL,BD,AX,AC,AA,AU,BM,AZ,↓reduceIte,oGs,bNf]
  refine ⟨?_,trivial⟩
  unfold G8
  rw [AG1 hz hlow (fun i hi=>hall i hi (by omega)),h16,hd]; rfl
def JJ (b:Bin):Bool :=
 decide (b.kind < 0) || decide (b.kind > 2) || (decide ((b.ranges.l.length:Int) > 0) == decide ((b.steps.length:Int) > 0)) || (b.kind != 0 && decide ((b.steps.length:Int) > 0)) || ((b.steps.length:Int) == 1) || decide ((b.steps.length:Int) > 8)
def G7 (b:Bin):Int :=
 if G8 b.name then if JJ b then 1 else if b.steps.any (fun l=>decide (l.l.length=0)) then 1 else
  if (sets b).any (fun l=>decide (l.l.length > 64)) then 2 else if (sets b).any (fun l=>l.l.any bad) then 1 else 0
 else 7
def shape (b:Bin):Bool :=
 if (b.kind != 0 && b.kind != 1 && b.kind != 2) then false else if ((b.steps.length:Int) == 0) then decide ((b.ranges.l.length:Int) > 0) else
  if (decide ((b.ranges.l.length:Int) > 0) || b.kind != 0 || decide ((b.steps.length:Int) < 2) || decide ((b.steps.length:Int) > 8)) then false else !(b.steps.any (fun l=>decide (l.l.length=0)))
theorem AJN : ∀ (n p z o t r s0 s1 s8 E:Bool),((n || p || z || o || t) && !(n && p) && !(n && z) && !(n && o) && !(n && t) && !(p && z) && !(p && o) && !(p && t) && !(z && o) && !(z && t) && !(o && t) && !(s0 && s1) && !(s0 && s8) && !(s1 && s8) && !(s0 && E))=true →
 (if (!z && !o && !t) then false else if s0 then r else if (r || !z || (s0 || s1) || s8) then false else !E)=(!(n || p || (r == !s0) || (!z && !s0) || s1 || s8) && !E):=by decide +kernel
theorem AM6 (k r s:Int) (E:Bool) (hs:0≤s) (hE:s=0→E=false) :
  (if (k != 0 && k != 1 && k != 2) then false else if (s == 0) then decide (r > 0) else if (decide (r > 0) || k != 0 || decide (s < 2) || decide (s > 8)) then false else !E) =
  (!(decide (k < 0) || decide (k > 2) || (decide (r > 0) == decide (s > 0)) || (k != 0 && decide (s > 0)) || (s == 1) || decide (s > 8)) && !E):=by
 have h1:decide (s > 0) = !(s == 0):=by rw [Bool.eq_iff_iff]; simp; omega
 have h2:decide (s < 2)=((s == 0) || (s == 1)):=by rw [Bool.eq_iff_iff]; simp; omega
 rw [h1,h2]
 have key:=AJN (decide (k < 0)) (decide (k > 2)) (k == 0) (k == 1) (k == 2) (decide (r > 0)) (s == 0) (s == 1) (decide (s > 8)) E ?_
 ·exact key
 ·have a1:(decide (k < 0) || decide (k > 2) || (k == 0) || (k == 1) || (k == 2))=true:=by simp; omega
  have no : ∀ (p q:Prop) [Decidable p] [Decidable q],¬ (p∧q)→(!(decide p && decide q))=true:=by
   intro p q _ _ h; by_cases hp:p <;> by_cases hq:q <;> simp_all
  have e0:(s == 0 && E)=false:=by
   by_cases hz:s=0
   ·rw [hE hz]; simp
   ·simp [hz]
  have b0:(k == 0)=decide (k=0):=rfl
  have b1:(k == 1)=decide (k=1):=rfl
  have b2:(k == 2)=decide (k=2):=rfl
  have c0:(s == 0)=decide (s=0):=rfl
  have c1:(s == 1)=decide (s=1):=rfl
  rw [e0]
  rw [b0,b1,b2] at a1 ⊢
  rw [c0,c1,a1,no _ _ (show ¬ (k < 0∧k > 2) by omega),no _ _ (show ¬ (k < 0∧k=0) by omega),no _ _ (show ¬ (k < 0∧k=1) by omega),no _ _ (show ¬ (k < 0∧k=2) by omega),
   no _ _ (show ¬ (k > 2∧k=0) by omega),no _ _ (show ¬ (k > 2∧k=1) by omega),no _ _ (show ¬ (k > 2∧k=2) by omega),no _ _ (show ¬ (k=0∧k=1) by omega),no _ _ (show ¬ (k=0∧k=2) by omega),no _ _ (show ¬ (k=1∧k=2) by omega),
   no _ _ (show ¬ (s=0∧s=1) by omega),no _ _ (show ¬ (s=0∧s > 8) by omega),no _ _ (show ¬ (s=1∧s > 8) by omega)]
  rfl
theorem AHG (b:Bin):shape b=(!JJ b && !(b.steps.any (fun l=>decide (l.l.length=0)))) :=
 AM6 b.kind b.ranges.l.length b.steps.length _ (by omega) (fun h=>by
  have:b.steps = []:=List.eq_nil_of_length_eq_zero (by omega)
  rw [this]; rfl)
theorem AJM (G:Nat→AV) (b:Bin) (h:Hp) (hl:b.steps.length≤1099511627776):PCall (En G) 201 [.agg (GM b)] h (.bool (shape b)):=by
 refine ACalls.pure0 rfl ?_
 refine CB (H:=Hint.none) (enM G) Tryz.func201 rfl (by kernel_rfl) (by kernel_rfl) (nLb (by kernel_rfl)) ?_
 show awp _ _ _ _ _ (EE _ [.tmp 2] _)
 simp -implicitDefEqProofs only [BC,BQ,BA,A8,AY,BB,BJ,BP,CO,AO,AQ,AL,BD,AX,AC,AA,A7,AU,BH,BM,BG,AZ,FV,BV,BR,BK,D6,CE,AB,EJ,BF,↓reduceIte,Nat.reduceEqDiff,Nat.zero_add,oGs,bNf,enP,PT,MW,MV,bxB,DC SC,DC OI,DC ag3,UT,YG,RZ,lLm]
 refine QO (fun F H=>F 7 = .bool (b.kind != 0 && b.kind != 1 && b.kind != 2)∧F 1 = .ptr h.length 0 0∧F 3 = .int .i64 b.steps.length∧H=h ++ [.live 4 [GM b]]) ?_ ?_
 ·refine G5 (fun ha => ?_) (fun ha => ?_)
  ·simp -implicitDefEqProofs only [AY,BJ,BP,CO,FY,AO,AQ,AL,BD,AX,AC,AA,A7,AU,BH,BM,BG,CQ,DN,BV,BR,BK,AB,EJ,↓reduceIte,Nat.reduceEqDiff,Nat.zero_add,oGs,bNf,enP,MW,ha,DC ag3,UT]
   refine G5 (fun hb => ?_) (fun hb => ?_)
   ·simp -implicitDefEqProofs only [AY,BB,BJ,BP,CO,FY,AO,AQ,AL,BD,AX,AC,AA,A7,AU,BH,BM,AZ,CQ,DN,BV,BR,BK,AB,EJ,↓reduceIte,Nat.reduceEqDiff,Nat.zero_add,oGs,bNf,enP,MW,hb,DC ag3,UT]
    exact ⟨rfl,trivial,trivial,trivial⟩
   ·simp -implicitDefEqProofs only [AY,BB,BJ,BP,CO,H7,AO,AQ,AL,BD,AX,AC,AA,EQ,A7,AU,BM,AZ,CQ,DK,↓reduceIte,Nat.reduceEqDiff,oGs,bNf,hb]
    exact ⟨rfl,trivial,trivial,trivial⟩
  ·simp -implicitDefEqProofs only [AY,BB,BJ,BP,CO,H7,AO,AQ,AL,BD,AX,AC,AA,EQ,A7,AU,BM,BG,AZ,CQ,DK,↓reduceIte,Nat.reduceEqDiff,oGs,bNf,ha]
   exact ⟨rfl,trivial,trivial,trivial⟩
 rintro F H ⟨f7,f1,f3,rfl⟩
 simp -implicitDefEqProofs only [BI,A8,A7,f7,f1,f3]
 refine CW (fun hk => ?_) (fun hk => ?_)
 ·simp -implicitDefEqProofs only [BC,BA,BL,A8,CP,D8,CJ,AY,BB,AO,AQ,AL,BD,AX,AC,AA,AU,BM,AZ,↓reduceIte,oGs,bNf]
  exact ⟨by unfold shape; rw [if_pos hk],_,rfl⟩
 have hk' : ¬ (b.kind != 0 && b.kind != 1 && b.kind != 2)=true:=by rw [hk]; simp
 simp -implicitDefEqProofs only [BC,BA,BI,A8,AY,BB,AO,AQ,AL,BD,AX,AC,AA,A7,AU,BH,BG,AZ,BR,AB,DY,↓reduceIte,oGs,bNf,enP,f1,f3]
 refine CW (fun hs => ?_) (fun hs => ?_)
 ·simp -implicitDefEqProofs only [BC,BA,BL,A8,CP,D8,CJ,AY,BB,AO,AQ,AL,BD,AX,AC,AA,A7,AU,BH,AZ,BV,BR,BK,D6,AB,EZ,↓reduceIte,Nat.reduceEqDiff,Nat.zero_add,oGs,bNf,enP,QJ,O8,f1,DC OI,YG,lLm]
  exact ⟨by unfold shape; rw [if_neg hk',if_pos hs],_,rfl⟩
 have hs' : ¬ ((b.steps.length:Int) == 0)=true:=by rw [hs]; simp
 simp -implicitDefEqProofs only [BC,BA,AY,BJ,BP,CO,AO,AQ,AL,BD,AX,AC,AA,A7,AU,BH,BG,BV,BR,BK,D6,AB,EZ,↓reduceIte,Nat.reduceEqDiff,Nat.zero_add,oGs,bNf,enP,QJ,O8,f1,f3,DC OI,YG,lLm]
 refine QO (fun F H=>F 28 = .bool (decide ((b.ranges.l.length:Int) > 0) || b.kind != 0 || decide ((b.steps.length:Int) < 2) || decide ((b.steps.length:Int) > 8))∧F 1 = .ptr h.length 0 0∧H=h ++ [.live 4 [GM b]]) ?_ ?_
 ·refine G5 (fun ha => ?_) (fun ha => ?_)
  ·simp -implicitDefEqProofs only [Bool.true_or,AY,BB,BJ,BP,CO,FK,AO,AQ,AL,BD,AX,AC,AA,EQ,A7,AU,BM,BG,AZ,CQ,DN,↓reduceIte,Nat.reduceEqDiff,oGs,bNf,ha,f1]
   exact ⟨trivial,trivial,trivial⟩
  simp -implicitDefEqProofs only [Bool.false_or,AY,BJ,BP,CO,EK,AO,AQ,AL,BD,AX,AC,AA,A7,AU,BH,BM,BG,CQ,DK,BV,BR,BK,AB,EJ,↓reduceIte,Nat.reduceEqDiff,Nat.zero_add,oGs,bNf,enP,MW,ha,f1,DC ag3,UT]
  refine G5 (fun hb => ?_) (fun hb => ?_)
  ·simp -implicitDefEqProofs only [Bool.true_or,AY,BB,BJ,BP,CO,FK,AO,AQ,AL,BD,AX,AC,AA,EQ,A7,AU,BM,BG,AZ,CQ,DN,↓reduceIte,Nat.reduceEqDiff,oGs,bNf,hb,f1]
   exact ⟨trivial,trivial,trivial⟩
  simp -implicitDefEqProofs only [Bool.false_or,AY,BJ,BP,CO,EK,AO,AQ,AL,BD,AX,AC,AA,A7,AU,BH,BM,BG,CQ,DK,BR,AB,DF,↓reduceIte,Nat.reduceEqDiff,oGs,bNf,enP,hb,f1,f3]
  refine G5 (fun hc => ?_) (fun hc => ?_)
  ·simp -implicitDefEqProofs only [Bool.true_or,AY,BB,BJ,BP,CO,FK,AO,AQ,AL,BD,AX,AC,AA,EQ,A7,AU,BM,AZ,CQ,DN,↓reduceIte,Nat.reduceEqDiff,oGs,bNf,hc,f1]
   exact ⟨trivial,trivial,trivial⟩
  ·simp -implicitDefEqProofs only [Bool.false_or,AY,BB,BJ,BP,CO,EK,AO,AQ,AL,BD,AX,AC,AA,A7,AU,BH,BM,BG,AZ,CQ,DK,BR,AB,EZ,↓reduceIte,Nat.reduceEqDiff,oGs,bNf,enP,hc,f1,f3]
   exact ⟨trivial,trivial,trivial⟩
 rintro F H ⟨f28,f1,rfl⟩
 simp -implicitDefEqProofs only [BI,A8,A7,f28,f1]
 refine CW (fun ho => ?_) (fun ho => ?_)
 ·simp -implicitDefEqProofs only [BC,BA,BL,A8,CP,D8,CJ,AY,BB,AO,AQ,AL,BD,AX,AC,AA,AU,BM,AZ,↓reduceIte,oGs,bNf]
  exact ⟨by unfold shape; rw [if_neg hk',if_neg hs',if_pos ho],_,rfl⟩
 have ho' : ¬ (decide ((b.ranges.l.length:Int) > 0) || b.kind != 0 || decide ((b.steps.length:Int) < 2) || decide ((b.steps.length:Int) > 8))=true:=by rw [ho]; simp
 simp -implicitDefEqProofs only [BC,BA,BO,A8,EF,AY,AO,AQ,AL,BD,AX,AC,AA,A7,BX,BV,BK,BZ,BU,AB,lMc,lMn,lAn,↓reduceIte,Nat.zero_add,oGs,bNf,enP,MV,f1,DC SC,RZ]
 refine (ACV G b.steps b.sm 235 [] (fun l=>decide (l.l.length=0)) _ hl fun r=>AQU G r _).use ?_
 simp -implicitDefEqProofs only [BL,A8,CJ,AY,BB,AO,AQ,AL,BD,AX,AC,AA,A7,AZ,G6,AB,EX,↓reduceIte,oGs,bNf]
 exact ⟨by unfold shape; rw [if_neg hk',if_neg hs',if_neg ho'],_,rfl⟩
theorem ZX {b:Bin} (h:G8 b.name=false):G7 b=7:=by unfold G7; rw [h]; rfl
theorem XG {b:Bin} (h:G8 b.name=true) (hs:JJ b=true):G7 b=1:=by unfold G7; rw [h,hs]; rfl
theorem XH {b:Bin} (h:G8 b.name=true) (hs:b.steps.any (fun l=>decide (l.l.length=0))=true):G7 b=1:=by
 unfold G7; rw [h,hs]; cases JJ b <;> rfl
theorem TV {b:Bin} (h:G8 b.name=true) (hs:JJ b=false) (he:b.steps.any (fun l=>decide (l.l.length=0))=false) :
  G7 b=if (sets b).any (fun l=>decide (l.l.length > 64)) then 2 else if (sets b).any (fun l=>l.l.any bad) then 1 else 0:=by
 unfold G7; rw [h,hs,he]; rfl
structure BinOk (b:Bin):Prop where
 num:(sets b).length≤1099511627776
 name:b.name.size≤1099511627776
 steps:b.steps.length≤1099511627776
 sets : ∀ l∈sets b,l.l.length≤1099511627776
theorem AHQ (xs:List Rng):decide (IZ xs=2)=decide (xs.length > 64):=by
 unfold IZ
 split
 ·simp_all
 ·split <;> simp_all
theorem Z5 (xs:List Rng):decide (IZ xs=1)=(decide (¬ xs.length > 64) && xs.any bad):=by
 unfold IZ
 split
 ·rename_i h; simp [h]
 ·rename_i h
  split
  ·rename_i h2; simp only [h2,h]; rfl
  ·rename_i h2; simp only [Bool.not_eq_true] at h2; simp only [h2]; simp
theorem AOX {b:Bin} (h:G8 b.name=true) (hs:JJ b=false) (he:b.steps.any (fun l=>decide (l.l.length=0))=false) :
  G7 b=if (sets b).any (fun l=>decide (IZ l.l=2)) then 2 else if (sets b).any (fun l=>decide (IZ l.l=1)) then 1 else 0:=by
 rw [TV h hs he]
 simp only [AHQ]
 split
 ·rfl
 ·rename_i hn
  have:(sets b).any (fun l=>decide (IZ l.l=1))=(sets b).any (fun l=>l.l.any bad):=by
   rw [Bool.eq_iff_iff,List.any_eq_true,List.any_eq_true]
   constructor
   ·rintro ⟨l,h1,h2⟩
    rw [Z5] at h2
    simp only [Bool.and_eq_true] at h2
    exact ⟨l,h1,h2.2⟩
   ·rintro ⟨l,h1,h2⟩
    refine ⟨l,h1,?_⟩
    rw [Z5,h2]
    rw [Bool.not_eq_true,List.any_eq_false] at hn
    have:=hn l h1
    simp only [decide_eq_true_eq] at this
    simp only [this,not_false_eq_true,decide_true,Bool.and_self]
  rw [this]
theorem UZ {α:Type} (p:α→Bool) (xs:List α) (k:Nat) (h:k < xs.length):(xs.take (k+1)).any p=((xs.take k).any p || p xs[k]):=by
 rw [List.take_succ_eq_append_getElem h,List.any_append,List.any_cons,List.any_nil,Bool.or_false]
theorem ABG (G:Nat→AV) (hG:KwG G) (b:Bin) (hb:BinOk b) (h:Hp):PCall (En G) 152 [.agg (GM b)] h (.int .i64 (G7 b)):=by
 refine ACalls.pure0 rfl ?_
 refine CB (H:=Hint.none) (enM G) Tryz.func152 rfl (by kernel_rfl) (by kernel_rfl) (nLb (by kernel_rfl)) ?_
 show awp _ _ _ _ _ (EE _ [.tmp 2] _)
 simp -implicitDefEqProofs only [BC,BA,A8,AY,BB,AO,AQ,AL,BD,AX,AC,AA,A7,AU,BX,BH,AZ,FV,BV,BK,BZ,BU,CE,AB,BF,lMc,lMn,lAn,↓reduceIte,Nat.reduceEqDiff,Nat.add_zero,oGs,bNf,enP,AA5,bxB,DC ag9,AMP]
 refine (NT G hG b.name _ hb.name).use ?_
 simp -implicitDefEqProofs only [BI,A8,AY,BB,AO,AQ,AL,BD,AX,AC,AA,A7,G6,AB,EX,↓reduceIte,oGs,bNf]
 refine CW (fun hn => ?_) (fun hn => ?_)
 ·simp -implicitDefEqProofs only [BC,BA,BL,A8,CP,CJ,AY,BB,AO,AQ,AL,BD,AX,AC,AA,AU,BH,AZ,↓reduceIte,oGs,bNf]
  exact ⟨by rw [ZX (by simpa using hn)],_,rfl⟩
 have hn':G8 b.name=true:=by simpa using hn
 simp -implicitDefEqProofs only [BC,BA,BO,A8,AY,AO,AQ,AL,BD,AX,AC,AA,A7,BX,BV,BZ,BU,AB,lMc,lMn,lAn,↓reduceIte,Nat.reduceEqDiff,oGs,bNf,enP,ldB]
 refine (AJM G b _ hb.steps).use ?_
 simp -implicitDefEqProofs only [BI,A8,AY,BB,AO,AQ,AL,BD,AX,AC,AA,A7,G6,AB,EX,↓reduceIte,oGs,bNf]
 refine CW (fun hs => ?_) (fun hs => ?_)
 ·simp -implicitDefEqProofs only [BC,BA,BL,A8,CP,CJ,AY,BB,AO,AQ,AL,BD,AX,AC,AA,AU,BH,AZ,↓reduceIte,oGs,bNf]
  refine ⟨?_,_,rfl⟩
  have h1:shape b=false:=by simpa using hs
  rw [AHG] at h1
  cases hr:JJ b with
  | true=>rw [XG hn' hr]
  | false =>
    rw [hr] at h1
    rw [XH hn' (by simpa using h1)]
 have h1:shape b=true:=by simpa using hs
 rw [AHG] at h1
 simp only [Bool.and_eq_true,Bool.not_eq_true'] at h1
 have hv:=TV hn' h1.1 h1.2
 simp -implicitDefEqProofs only [BC,BA,BO,A8,AY,BB,AO,AQ,AL,BD,AX,AC,AA,A7,AU,BX,BM,AZ,BV,BZ,BU,AB,lMc,lMn,lAn,↓reduceIte,Nat.reduceEqDiff,oGs,bNf,enP,ldB]
 refine (AD8 G b _).use ?_
 simp -implicitDefEqProofs only [BQ,A8,AY,BB,AO,AQ,AL,BD,AX,AC,AA,A7,AU,BH,BG,D6,AB,↓reduceIte,oGs,bNf,enP,PT,lLm]
 refine DR (fun n F H => ∃ k,n+k=(sets b).length∧F 3 = .bool (((sets b).take k).any fun l=>decide (IZ l.l=2))∧F 4 = .bool (((sets b).take k).any fun l=>decide (IZ l.l=1))∧F 15 = .sl (QU b) 1 ((sets b).map encS)∧F 16 = .int .i64 (sets b).length∧F 17 = .int .i64 (k:Nat)∧H=h ++ [.live 4 [GM b]]) (sets b).length ⟨0,by simp,rfl,rfl,rfl,rfl,rfl,rfl⟩ ?_
 rintro n F H ⟨k,hk,f3,f4,f15,f16,f17,rfl⟩
 simp -implicitDefEqProofs only [BC,BA,BI,A8,AY,BB,AO,AQ,AL,BD,AX,AC,AA,A7,BR,AB,DF,↓reduceIte,oGs,bNf,enP,f15,f16,f17]
 refine CW (fun hc => ?_) (fun hc => ?_)
 ·have hc':k < (sets b).length:=by simpa using hc
  simp -implicitDefEqProofs only [BC,BQ,BA,BO,A8,AY,BB,AO,AQ,AL,BD,AX,AC,AA,A7,BX,BG,AZ,BV,CG,BZ,BU,AB,lMc,lMn,lAn,↓reduceIte,Nat.reduceEqDiff,oGs,bNf,enP,AAB,f15,f17,D5 hc',DT OI hc',AAG]
  refine (AHP G _ _ _ (hb.sets _ (List.getElem_mem hc'))).use ?_
  have t2:=UZ (fun l:Rs=>decide (IZ l.l=2)) (sets b) k hc'
  have t1:=UZ (fun l:Rs=>decide (IZ l.l=1)) (sets b) k hc'
  simp -implicitDefEqProofs only [BC,BQ,BA,BI,A8,AY,BB,AO,AQ,AL,BD,AX,AC,AA,A7,AU,BH,AZ,BR,AB,DY,↓reduceIte,oGs,bNf,enP]
  refine CW (fun hd => ?_) (fun hd => ?_)
  ·have hd':IZ (sets b)[k].l=2:=by simpa using hd
   simp -implicitDefEqProofs only [BA,A8,EF,ER,AY,BB,AO,AQ,AL,BD,AX,AC,AA,A7,AU,BH,BM,BG,AZ,BR,AB,DI,↓reduceIte,Nat.reduceEqDiff,oGs,bNf,enP,f17,wrap_succ (show k < 9223372036854775807 by have:=hb.num; omega)]
   refine ⟨n - 1,by omega,k+1,by omega,?_,?_,f15,f16,rfl,trivial⟩
   ·rw [t2,hd']; simp
   ·rw [f4,t1,hd']; simp
  simp -implicitDefEqProofs only [BC,BA,BI,A8,AY,BB,AO,AQ,AL,BD,AX,AC,AA,A7,AU,BH,AZ,BR,AB,DY,↓reduceIte,Nat.reduceEqDiff,oGs,bNf,enP]
  refine CW (fun he => ?_) (fun he => ?_)
  ·have he':IZ (sets b)[k].l=1:=by simpa using he
   simp -implicitDefEqProofs only [BA,A8,EF,ER,AY,BB,AO,AQ,AL,BD,AX,AC,AA,A7,AU,BH,BM,BG,AZ,BR,AB,DI,↓reduceIte,Nat.reduceEqDiff,oGs,bNf,enP,f17,wrap_succ (show k < 9223372036854775807 by have:=hb.num; omega)]
   refine ⟨n - 1,by omega,k+1,by omega,?_,?_,f15,f16,rfl,trivial⟩
   ·rw [f3,t2,he']; simp
   ·rw [t1,he']; simp
  ·have hd':IZ (sets b)[k].l≠2:=by simpa using hd
   have he':IZ (sets b)[k].l≠1:=by simpa using he
   simp -implicitDefEqProofs only [BA,BO,A8,EF,ER,AY,BB,AO,AQ,AL,BD,AX,AC,AA,A7,AU,BH,BG,BR,AB,DI,↓reduceIte,Nat.reduceEqDiff,oGs,bNf,enP,f17,wrap_succ (show k < 9223372036854775807 by have:=hb.num; omega)]
   refine ⟨n - 1,by omega,k+1,by omega,?_,?_,f15,f16,rfl,trivial⟩
   ·rw [f3,t2]; simp [hd']
   ·rw [f4,t1]; simp [he']
 ·have hc' : ¬ k < (sets b).length:=by simpa using hc
  rw [List.take_of_length_le (by omega)] at f3 f4
  have hE:=AOX hn' h1.1 h1.2
  simp -implicitDefEqProofs only [BC,BQ,BA,DL,BI,A8,EC,EY,EW,AY,BB,AO,AQ,AL,BD,AX,AC,AA,A7,BG,AZ,↓reduceIte,Nat.reduceEqDiff,oGs,bNf,f3,f4]
  refine CW (fun hd => ?_) (fun hd => ?_)
  ·simp -implicitDefEqProofs only [BC,BA,BL,A8,CP,D8,CJ,AY,BB,AO,AQ,AL,BD,AX,AC,AA,AU,BH,AZ,↓reduceIte,oGs,bNf]
   exact ⟨by rw [hE,if_pos hd],_,rfl⟩
  simp -implicitDefEqProofs only [BC,BA,BI,A8,AY,BB,AO,AQ,AL,BD,AX,AC,AA,A7,BG,AZ,↓reduceIte,Nat.reduceEqDiff,oGs,bNf,f4]
  refine CW (fun he => ?_) (fun he => ?_)
  ·simp -implicitDefEqProofs only [BC,BA,BL,A8,CP,D8,CJ,AY,BB,AO,AQ,AL,BD,AX,AC,AA,AU,BH,AZ,↓reduceIte,oGs,bNf]
   exact ⟨by rw [hE,if_neg (by rw [hd]; simp),if_pos he],_,rfl⟩
  ·simp -implicitDefEqProofs only [BC,BA,BO,BL,A8,EF,CJ,AY,BB,AO,AQ,AL,BD,AX,AC,AA,AU,BH,AZ,↓reduceIte,oGs,bNf]
   exact ⟨by rw [hE,if_neg (by rw [hd]; simp),if_neg (by rw [he]; simp)],_,rfl⟩
theorem AD4 (G:Nat→AV) (b:Bin) (hb:BinOk b) (h:Hp):PCall (En G) 162 [.agg (GM b)] h (.int .i64 (G7 b)):=by
 refine ACalls.pure0 rfl ?_
 refine CB (H:=Hint.none) (enM G) Tryz.func162 rfl (by kernel_rfl) (by kernel_rfl) (nLb (by kernel_rfl)) ?_
 show awp _ _ _ _ _ (EE _ [.tmp 2] _)
 simp -implicitDefEqProofs only [BC,BA,A8,AY,BB,AO,AQ,AL,BD,AX,AC,AA,A7,AU,BX,BH,AZ,FV,BV,BK,BZ,BU,CE,AB,BF,lMc,lMn,lAn,↓reduceIte,Nat.reduceEqDiff,Nat.add_zero,oGs,bNf,enP,AA5,bxB,DC ag9,AMP]
 refine (OW G b.name _).use ?_
 simp -implicitDefEqProofs only [BI,A8,AY,BB,AO,AQ,AL,BD,AX,AC,AA,A7,G6,AB,EX,↓reduceIte,oGs,bNf]
 refine CW (fun hn => ?_) (fun hn => ?_)
 ·simp -implicitDefEqProofs only [BC,BA,BL,A8,CP,CJ,AY,BB,AO,AQ,AL,BD,AX,AC,AA,AU,BH,AZ,↓reduceIte,oGs,bNf]
  exact ⟨by rw [ZX (by simpa using hn)],_,rfl⟩
 have hn':G8 b.name=true:=by simpa using hn
 simp -implicitDefEqProofs only [BC,BA,BO,A8,AY,BJ,BP,CO,AO,AQ,AL,BD,AX,AC,AA,A7,AU,BH,BG,BV,BR,BK,AB,DF,↓reduceIte,Nat.reduceEqDiff,Nat.zero_add,oGs,bNf,enP,MW,DC ag3,UT]
 refine QO (fun F H=>F 53 = .bool (JJ b)∧F 1 = .ptr h.length 0 0∧H=h ++ [.live 4 [GM b]]) ?_ ?_
 ·refine G5 (fun ha => ?_) (fun ha => ?_)
  ·simp -implicitDefEqProofs only [AY,BB,BJ,BP,CO,FK,QN,AO,AQ,AL,BD,AX,AC,AA,EQ,A7,AU,BM,BG,CQ,DN,↓reduceIte,Nat.reduceEqDiff,oGs,bNf,ha]
   exact ⟨by unfold JJ; rw [ha]; rfl,trivial,trivial⟩
  simp -implicitDefEqProofs only [AY,BJ,BP,CO,EK,AO,AQ,AL,BD,AX,AC,AA,A7,AU,BH,BM,BG,CQ,DK,BV,BR,BK,AB,EZ,↓reduceIte,Nat.reduceEqDiff,Nat.zero_add,oGs,bNf,enP,MW,ha,DC ag3,UT]
  refine G5 (fun hb => ?_) (fun hb => ?_)
  ·simp -implicitDefEqProofs only [AY,BB,BJ,BP,CO,FK,QN,AO,AQ,AL,BD,AX,AC,AA,EQ,A7,AU,BM,BG,CQ,DN,↓reduceIte,Nat.reduceEqDiff,oGs,bNf,hb]
   exact ⟨by unfold JJ; rw [ha,hb]; rfl,trivial,trivial⟩
  simp -implicitDefEqProofs only [AY,BJ,BP,CO,EK,AO,AQ,AL,BD,AX,AC,AA,A7,AU,BH,BM,BG,CQ,DK,BV,BR,BK,D6,AB,EZ,↓reduceIte,Nat.reduceEqDiff,Nat.zero_add,oGs,bNf,enP,be4,QJ,PT,O8,MV,hb,DC OI,DC SC,YG,RZ,lLm]
  refine G5 (fun hc => ?_) (fun hc => ?_)
  ·simp -implicitDefEqProofs only [AY,BB,BJ,BP,CO,FK,QN,AO,AQ,AL,BD,AX,AC,AA,EQ,A7,AU,BM,BG,CQ,DN,↓reduceIte,Nat.reduceEqDiff,oGs,bNf,hc]
   exact ⟨by unfold JJ; rw [ha,hb,hc]; rfl,trivial,trivial⟩
  simp -implicitDefEqProofs only [BJ,BP,CO,EK,AO,AQ,AL,BD,AX,AC,AA,A7,AU,BH,BG,BV,BR,BK,AB,EJ,↓reduceIte,Nat.reduceEqDiff,Nat.zero_add,oGs,bNf,enP,MW,hc,DC ag3,UT]
  refine G5 (fun hd => ?_) (fun hd => ?_)
  ·simp -implicitDefEqProofs only [AY,BJ,BP,CO,FY,EK,AO,AQ,AL,BD,AX,AC,AA,A7,AU,BH,BM,BG,CQ,DN,DK,BV,BR,BK,D6,AB,EZ,↓reduceIte,Nat.reduceEqDiff,Nat.zero_add,oGs,bNf,enP,PT,MV,hd,DC SC,RZ,lLm]
   refine G5 (fun he => ?_) (fun he => ?_)
   ·simp -implicitDefEqProofs only [AY,BB,BJ,BP,CO,FK,AO,AQ,AL,BD,AX,AC,AA,EQ,A7,AU,BM,BG,CQ,DN,↓reduceIte,Nat.reduceEqDiff,oGs,bNf,he]
    exact ⟨by unfold JJ; rw [ha,hb,hc,hd,he]; rfl,trivial,trivial⟩
   simp -implicitDefEqProofs only [AY,BJ,BP,CO,EK,AO,AQ,AL,BD,AX,AC,AA,A7,AU,BH,BM,BG,CQ,DK,BV,BR,BK,D6,AB,DY,↓reduceIte,Nat.reduceEqDiff,Nat.zero_add,oGs,bNf,enP,PT,MV,he,DC SC,RZ,lLm]
   refine G5 (fun hf => ?_) (fun hf => ?_)
   ·simp -implicitDefEqProofs only [AY,BB,BJ,BP,CO,FK,AO,AQ,AL,BD,AX,AC,AA,EQ,A7,AU,BM,CQ,DN,↓reduceIte,Nat.reduceEqDiff,oGs,bNf,hf]
    exact ⟨by unfold JJ; rw [ha,hb,hc,hd,he,hf]; rfl,trivial,trivial⟩
   ·simp -implicitDefEqProofs only [AY,BB,BJ,BP,CO,EK,AO,AQ,AL,BD,AX,AC,AA,A7,AU,BH,BM,CQ,DK,BV,BR,BK,D6,AB,EZ,↓reduceIte,Nat.reduceEqDiff,Nat.zero_add,oGs,bNf,enP,PT,MV,hf,DC SC,RZ,lLm]
    exact ⟨by unfold JJ; rw [ha,hb,hc,hd,he,hf]; rfl,trivial,trivial⟩
  ·simp -implicitDefEqProofs only [AY,BJ,BP,CO,EK,H7,AO,AQ,AL,BD,AX,AC,AA,EQ,A7,AU,BH,BM,BG,CQ,DK,BV,BR,BK,D6,AB,DY,↓reduceIte,Nat.reduceEqDiff,Nat.zero_add,oGs,bNf,enP,PT,MV,hd,DC SC,RZ,lLm]
   refine G5 (fun hf => ?_) (fun hf => ?_)
   ·simp -implicitDefEqProofs only [AY,BB,BJ,BP,CO,FK,AO,AQ,AL,BD,AX,AC,AA,EQ,A7,AU,BM,CQ,DN,↓reduceIte,Nat.reduceEqDiff,oGs,bNf,hf]
    exact ⟨by unfold JJ; rw [ha,hb,hc,hd,hf]; rfl,trivial,trivial⟩
   ·simp -implicitDefEqProofs only [AY,BB,BJ,BP,CO,EK,AO,AQ,AL,BD,AX,AC,AA,A7,AU,BH,BM,CQ,DK,BV,BR,BK,D6,AB,EZ,↓reduceIte,Nat.reduceEqDiff,Nat.zero_add,oGs,bNf,enP,PT,MV,hf,DC SC,RZ,lLm]
    exact ⟨by unfold JJ; rw [ha,hb,hc,hd,hf]; rfl,trivial,trivial⟩
 rintro F H ⟨f53,f1,rfl⟩
 simp -implicitDefEqProofs only [BI,A8,A7,f53,f1]
 refine CW (fun hs => ?_) (fun hs => ?_)
 ·simp -implicitDefEqProofs only [BC,BA,BL,A8,CP,CJ,AY,BB,AO,AQ,AL,BD,AX,AC,AA,AU,BH,AZ,↓reduceIte,oGs,bNf]
  exact ⟨by rw [XG hn' hs],_,rfl⟩
 simp -implicitDefEqProofs only [BC,BQ,BA,BO,A8,AY,BB,AO,AQ,AL,BD,AX,AC,AU,BH,AZ,oGs,bNf]
 refine G9 0 (fun F H=>F 1 = .ptr h.length 0 0∧H=h ++ [.live 4 [GM b]]∧b.steps.any (fun l=>decide (l.l.length=0))=false) (fun F H=>F 2 = .int .i64 (G7 b)∧H=h ++ [.live 4 [GM b]]) ?_ ?_ ?_
 ·refine DR (fun n F H => ∃ k,n+k=b.steps.length∧F 1 = .ptr h.length 0 0∧F 3 = .int .i64 (k:Nat)∧H=h ++ [.live 4 [GM b]]∧(b.steps.take k).any (fun l=>decide (l.l.length=0))=false) b.steps.length ⟨0,by simp,by simp -implicitDefEqProofs only [AA,↓reduceIte,Nat.reduceEqDiff,f1],by simp -implicitDefEqProofs only [AA,↓reduceIte]; rfl,rfl,rfl⟩ ?_
  rintro n F H ⟨k,hk,f1,f3,rfl,hin⟩
  simp -implicitDefEqProofs only [BC,BA,BI,A8,AY,BB,AO,AQ,AL,BD,AX,AC,AA,A7,BG,BV,BR,BK,D6,AB,DF,↓reduceIte,Nat.reduceEqDiff,Nat.zero_add,oGs,bNf,enP,PT,MV,f1,f3,DC SC,RZ,lLm]
  refine CW (fun hc => ?_) (fun hc => ?_)
  ·have hc':k < b.steps.length:=by simpa using hc
   have t0:=UZ (fun l:Rs=>decide (l.l.length=0)) b.steps k hc'
   simp -implicitDefEqProofs only [BC,BQ,BA,BO,BI,A8,AY,BB,AO,AQ,AL,BD,AX,AC,AA,A7,AU,BH,BG,BV,BR,BK,CG,D6,AB,DY,↓reduceIte,Nat.reduceEqDiff,Nat.zero_add,oGs,bNf,enP,QJ,AAB,MV,f1,f3,DC SC,RZ,D5 hc',DT OI hc',AAG,lLm]
   refine CW (fun hd => ?_) (fun hd => ?_)
   ·simp -implicitDefEqProofs only [BC,BA,BL,A8,CP,D8,MR,FB,AY,BB,AO,AQ,AL,BD,AX,AC,AA,AU,BH,AZ,↓reduceIte,oGs,bNf]
    refine ⟨?_,trivial⟩
    have:b.steps.any (fun l=>decide (l.l.length=0))=true:=by
     rw [List.any_eq_true]
     exact ⟨b.steps[k],by simp,by simp at hd; simp [hd]⟩
    rw [XH hn' this]
   ·simp -implicitDefEqProofs only [BA,BO,A8,EF,ER,AY,BB,AO,AQ,AL,BD,AX,AC,AA,A7,AU,BH,BG,AZ,BR,AB,DI,↓reduceIte,Nat.reduceEqDiff,oGs,bNf,enP,f3,wrap_succ (show k < 9223372036854775807 by have:=hb.steps; omega)]
    refine ⟨n - 1,by omega,k+1,by omega,f1,rfl,trivial,?_⟩
    rw [t0,hin]
    simp at hd
    simp [hd]
  ·have hc' : ¬ k < b.steps.length:=by simpa using hc
   simp -implicitDefEqProofs only [DL,EC,KG,EW,AA,↓reduceIte,Nat.reduceEqDiff]
   rw [List.take_of_length_le (by omega)] at hin
   exact ⟨f1,trivial,hin⟩
 ·rintro F H ⟨f1,rfl,he⟩
  have hs':JJ b=false:=by simpa using hs
  have hv:=TV hn' hs' he
  simp -implicitDefEqProofs only [BC,BA,A8,EY,AY,AO,AQ,AL,BD,AX,AC,AA,A7,BX,BV,BZ,BU,AB,lMc,lMn,lAn,↓reduceIte,oGs,bNf,enP,f1,ldB]
  refine (AHH G b _).use ?_
  simp -implicitDefEqProofs only [BC,BQ,BA,A8,AY,BB,AO,AQ,AL,BD,AX,AC,AA,A7,AU,BH,AZ,↓reduceIte,oGs,bNf]
  refine G9 2 (fun F H=>F 4 = .sl (QU b) 1 ((sets b).map encS)∧H=h ++ [.live 4 [GM b]]∧(sets b).any (fun l=>decide (l.l.length > 64))=false) (fun F H=>F 2 = .int .i64 (G7 b)∧H=h ++ [.live 4 [GM b]]) ?_ ?_ ?_
  ·refine DR (fun n F H => ∃ k,n+k=(sets b).length∧F 4 = .sl (QU b) 1 ((sets b).map encS)∧F 5 = .int .i64 (k:Nat)∧H=h ++ [.live 4 [GM b]]∧((sets b).take k).any (fun l=>decide (l.l.length > 64))=false) (sets b).length ⟨0,by simp,by simp -implicitDefEqProofs only [AA,↓reduceIte,Nat.reduceEqDiff],by simp -implicitDefEqProofs only [AA,↓reduceIte]; rfl,rfl,rfl⟩ ?_
   rintro n F H ⟨k,hk,f4,f5,rfl,hin⟩
   simp -implicitDefEqProofs only [BC,BA,BI,A8,AY,BB,AO,AQ,AL,BD,AX,AC,AA,A7,BG,BR,D6,AB,DF,↓reduceIte,Nat.reduceEqDiff,oGs,bNf,enP,PT,f4,f5,lLm]
   refine CW (fun hc => ?_) (fun hc => ?_)
   ·have hc':k < (sets b).length:=by simpa using hc
    have t0:=UZ (fun l:Rs=>decide (l.l.length > 64)) (sets b) k hc'
    simp -implicitDefEqProofs only [BC,BQ,BA,BO,BI,A8,AY,BB,AO,AQ,AL,BD,AX,AC,AA,A7,AU,BH,BG,BV,BR,CG,D6,AB,EZ,↓reduceIte,Nat.reduceEqDiff,oGs,bNf,enP,QJ,AAB,f4,f5,D5 hc',DT OI hc',AAG,lLm]
    refine CW (fun hd => ?_) (fun hd => ?_)
    ·simp -implicitDefEqProofs only [BC,BA,BL,A8,CP,D8,MR,FB,AY,BB,AO,AQ,AL,BD,AX,AC,AA,AU,BH,AZ,↓reduceIte,oGs,bNf]
     refine ⟨?_,trivial⟩
     have:(sets b).any (fun l=>decide (l.l.length > 64))=true:=by
      rw [List.any_eq_true]
      exact ⟨(sets b)[k],by simp,by simp at hd ⊢; omega⟩
     rw [hv,if_pos this]
    ·simp -implicitDefEqProofs only [BA,BO,A8,EF,ER,AY,BB,AO,AQ,AL,BD,AX,AC,AA,A7,AU,BH,BG,AZ,BR,AB,DI,↓reduceIte,Nat.reduceEqDiff,oGs,bNf,enP,f5,wrap_succ (show k < 9223372036854775807 by have:=hb.num; omega)]
     refine ⟨n - 1,by omega,k+1,by omega,f4,rfl,trivial,?_⟩
     rw [t0,hin]
     simp at hd ⊢
     omega
   ·have hc' : ¬ k < (sets b).length:=by simpa using hc
    simp -implicitDefEqProofs only [DL,EC,KG,EW,AA,↓reduceIte,Nat.reduceEqDiff]
    rw [List.take_of_length_le (by omega)] at hin
    exact ⟨f4,trivial,hin⟩
  ·rintro F H ⟨f4,rfl,h64⟩
   rw [h64] at hv
   simp only [Bool.false_eq_true,if_false] at hv
   simp -implicitDefEqProofs only [BC,BQ,BA,A8,EY,AY,BB,AO,AQ,AL,BD,AX,AC,AU,BH,AZ,↓reduceIte,oGs,bNf,f4]
   refine DR (fun n F H => ∃ k,n+k=(sets b).length∧F 4 = .sl (QU b) 1 ((sets b).map encS)∧F 6 = .int .i64 (k:Nat)∧H=h ++ [.live 4 [GM b]]∧((sets b).take k).any (fun l=>l.l.any bad)=false) (sets b).length ⟨0,by simp,by simp -implicitDefEqProofs only [AA,↓reduceIte,Nat.reduceEqDiff,f4],by simp -implicitDefEqProofs only [AA,↓reduceIte]; rfl,rfl,rfl⟩ ?_
   rintro n F H ⟨k,hk,f4,f6,rfl,hin⟩
   simp -implicitDefEqProofs only [BC,BA,BI,A8,AY,BB,AO,AQ,AL,BD,AX,AC,AA,A7,BG,BR,D6,AB,DF,↓reduceIte,Nat.reduceEqDiff,oGs,bNf,enP,PT,f4,f6,lLm]
   refine CW (fun hc => ?_) (fun hc => ?_)
   ·have hc':k < (sets b).length:=by simpa using hc
    have t0:=UZ (fun l:Rs=>l.l.any bad) (sets b) k hc'
    simp -implicitDefEqProofs only [BC,BQ,BA,BO,A8,AY,AO,AQ,AL,BD,AX,AC,AA,A7,BX,BG,BV,CG,BZ,BU,AB,lMc,lMn,lAn,↓reduceIte,Nat.reduceEqDiff,oGs,bNf,enP,AAB,f4,f6,D5 hc',DT OI hc',AAG,lLm]
    refine (AJT G _ _ _).use ?_
    have hk64 : ¬ (sets b)[k].l.length > 64:=by
     rw [List.any_eq_false] at h64
     have:=h64 (sets b)[k] (by simp)
     simpa using this
    simp -implicitDefEqProofs only [BC,BA,BI,A8,AY,BB,AO,AQ,AL,BD,AX,AC,AA,A7,AU,BH,BG,AZ,BR,AB,EJ,↓reduceIte,oGs,bNf,enP]
    cases hbad:(sets b)[k].l.any bad with
    | true =>
      have hr:=UF hk64 hbad
      refine CW (fun hd => ?_) (fun hd => ?_)
      ·simp -implicitDefEqProofs only [BC,BA,BL,A8,CP,D8,FB,CJ,AY,BB,AO,AQ,AL,BD,AX,AC,AA,A7,BG,AZ,↓reduceIte,Nat.reduceEqDiff,oGs,bNf]
       refine ⟨?_,_,rfl⟩
       have:(sets b).any (fun l=>l.l.any bad)=true:=by
        rw [List.any_eq_true]
        exact ⟨(sets b)[k],by simp,hbad⟩
       rw [hr,hv,if_pos this]
      ·rw [hr] at hd; simp at hd
    | false =>
      have hr:=WI hk64 hbad
      refine CW (fun hd => ?_) (fun hd => ?_)
      ·rw [hr] at hd; simp at hd
      ·simp -implicitDefEqProofs only [BA,BO,A8,EF,ER,AY,BB,AO,AQ,AL,BD,AX,AC,AA,A7,AU,BH,BG,AZ,BR,AB,DI,↓reduceIte,Nat.reduceEqDiff,oGs,bNf,enP,f6,wrap_succ (show k < 9223372036854775807 by have:=hb.num; omega)]
       refine ⟨n - 1,by omega,k+1,by omega,f4,rfl,trivial,?_⟩
       rw [t0,hin,hbad]; rfl
   ·have hc' : ¬ k < (sets b).length:=by simpa using hc
    simp -implicitDefEqProofs only [BC,BA,BL,DL,A8,EC,EY,EW,CJ,AY,BB,AO,AQ,AL,BD,AX,AC,AA,AU,BH,AZ,↓reduceIte,oGs,bNf]
    rw [List.take_of_length_le (by omega)] at hin
    exact ⟨by rw [hv,if_neg (by rw [hin]; simp)],_,rfl⟩
  ·rintro F H ⟨f2,rfl⟩
   simp -implicitDefEqProofs only [CP,D8,CJ]
   exact ⟨f2,_,rfl⟩
 ·rintro F H ⟨f2,rfl⟩
  simp -implicitDefEqProofs only [CP,D8,CJ]
  exact ⟨by rw [f2],_,rfl⟩
end Go.Proofs.YtocilianjfhifaaGreatDoor.Bins
namespace Go.Proofs.YtocilianjfhifaaGreatDoor.Cov
open Sm Bins
inductive Ex where
 | mk (op n:Int) (name:ByteArray) (m:SM) (args:List Ex)
def Ex.op:Ex→Int | .mk op _ _ _ _=>op
def Ex.n:Ex→Int | .mk _ n _ _ _=>n
def Ex.name:Ex→ByteArray | .mk _ _ name _ _=>name
def Ex.m:Ex→SM | .mk _ _ _ m _=>m
def Ex.args:Ex→List Ex | .mk _ _ _ _ args=>args
mutual
def ET:Ex→List AV
 | .mk op n name m args => [.int .i64 op,.int .i64 n,.str name,.sl m 4 (AIN args)]
def AIN:List Ex→List (List AV)
 | [] => []
 | e :: es=>ET e :: AIN es
end
theorem AEX : ∀ l:List Ex,AIN l=l.map ET
 | []=>by simp [AIN]
 | e :: es=>by simp [AIN,AEX es]
theorem OE (e:Ex):ET e = [.int .i64 e.op,.int .i64 e.n,.str e.name,.sl e.m 4 (e.args.map ET)]:=by
 cases e; simp [ET,AEX,Ex.op,Ex.n,Ex.name,Ex.m,Ex.args]
theorem JU (e:Ex):(ET e).length=4:=by rw [OE]; rfl
theorem JW (e:Ex):(ET e)[0]? = some (.int .i64 e.op):=by rw [OE]; rfl
theorem YF (e:Ex):(ET e)[1]? = some (.int .i64 e.n):=by rw [OE]; rfl
theorem PU (e:Ex):(ET e)[2]? = some (.str e.name):=by rw [OE]; rfl
theorem YD (e:Ex):(ET e)[3]? = some (.sl e.m 4 (e.args.map ET)):=by rw [OE]; rfl
theorem AEY (e:Ex):(ET e).all AV.leaf=true:=by rw [OE]; rfl
theorem bxE (h:Hp) (e:Ex):O3 h (.agg (ET e))=some (.ptr h.length 0 0,h ++ [.live 4 [ET e]]):=by
 have:=YK (h:=h) (AEY e)
 rw [JU] at this; exact this
theorem ldE (h:Hp) (e:Ex):DZ Tryz.prog (h ++ [.live 4 [ET e]]) 53 (.ptr h.length 0 0)=some (.agg (ET e)):=by
 rw [VB AAY WB (by rw [JU]; exact Nat.le_refl 4)]
 rw [List.drop_zero,List.take_of_length_le (by rw [JU]; exact Nat.le_refl 4)]
theorem ML {h:Hp} {b:Nat} {e:Ex} (hb:h[b]? = some (.live 4 [ET e])):DZ Tryz.prog h 53 (.ptr b 0 0)=some (.agg (ET e)):=by
 rw [IY AAY WB hb rfl (by rw [JU]; exact Nat.le_refl 4)]
 rw [List.drop_zero,List.take_of_length_le (by rw [JU]; exact Nat.le_refl 4)]
mutual
def pre:Ex→List Ex
 | .mk op n name m args => .mk op n name m args :: JL args
def JL:List Ex→List Ex
 | [] => []
 | e :: es=>pre e ++ JL es
end
mutual
def dep:Ex→Nat
 | .mk _ _ _ _ args=>deps args+1
def deps:List Ex→Nat
 | []=>0
 | e :: es=>max (dep e) (deps es)
end
mutual
def wt:Ex→Nat
 | .mk _ _ name _ args=>name.size+1+wts args
def wts:List Ex→Nat
 | []=>0
 | e :: es=>wt e+wts es
end
theorem pre_eq (e:Ex):pre e=e :: JL e.args:=by cases e; simp [pre,Ex.args]
theorem AGG (e:Ex):dep e=deps e.args+1:=by cases e; simp [dep,Ex.args]
theorem MH (e:Ex):wt e=e.name.size+1+wts e.args:=by cases e; simp [wt,Ex.args,Ex.name]
theorem PH (xs ys:List Ex):JL (xs ++ ys)=JL xs ++ JL ys:=by
 induction xs with
 | nil=>simp [JL]
 | cons x xs ih=>simp [JL,ih]
theorem SI (xs:List Ex):xs.length≤wts xs:=by
 induction xs with
 | nil=>simp [wts]
 | cons x xs ih=>have:=MH x; simp [wts]; omega
theorem QR {xs:List Ex} {x:Ex} (h:x∈xs):wt x≤wts xs:=by
 induction xs with
 | nil=>cases h
 | cons y ys ih =>
   simp only [wts]
   cases List.mem_cons.1 h with
   | inl e=>subst e; omega
   | inr e=>have:=ih e; omega
theorem AE0 (xs:List Ex) (k:Nat) (h:k < xs.length):deps (xs.take (k+1))=max (deps (xs.take k)) (dep xs[k]):=by
 induction xs generalizing k with
 | nil=>simp at h
 | cons x xs ih =>
   cases k with
   | zero=>simp [deps]
   | succ k =>
     simp only [List.take_succ_cons,deps,List.getElem_cons_succ]
     rw [ih k (by simpa using h),Nat.max_assoc]
theorem Ex.induct {P:Ex→Prop} (h : ∀ e:Ex,(∀ a∈e.args,P a)→P e) (e:Ex):P e:=by
 have : ∀ n (e:Ex),wt e≤n→P e:=by
  intro n
  induction n with
  | zero=>intro e he; have:=MH e; omega
  | succ n ih =>
    intro e he
    refine h e fun a ha=>ih a ?_
    have h1:=QR ha
    have h2:=MH e
    omega
 exact this _ e (Nat.le_refl _)
theorem AQY (e:Ex):dep e≤wt e:=by
 refine Ex.induct (P:=fun e=>dep e≤wt e) (fun e ih => ?_) e
 rw [AGG,MH]
 have:deps e.args≤wts e.args:=by
  generalize e.args=l at ih
  induction l with
  | nil=>simp [deps,wts]
  | cons x l ih2 =>
    have h1:=ih x (by simp)
    have h2:=ih2 (fun a ha=>ih a (by simp [ha]))
    simp only [deps,wts]; omega
 omega
theorem AFO (e:Ex):(pre e).length≤wt e:=by
 refine Ex.induct (P:=fun e=>(pre e).length≤wt e) (fun e ih => ?_) e
 rw [pre_eq,MH]
 have:(JL e.args).length≤wts e.args:=by
  generalize e.args=l at ih
  induction l with
  | nil=>simp [JL,wts]
  | cons x l ih2 =>
    have h1:=ih x (by simp)
    have h2:=ih2 (fun a ha=>ih a (by simp [ha]))
    simp only [JL,wts,List.length_append]; omega
 simp; omega
def arity (op:Int):Int:=if op < 1∨op > 25 then -1 else if op=1∨op=2∨op=24 then 0 else if op=3∨op=4∨op=5∨op=6∨op=25 then 1 else if op=22 then 3 else if op=23 then -1 else 2
set_option maxHeartbeats 2000000 in
theorem AKW (G:Nat→AV) (op:Int) (h:Hp):PCall (En G) 258 [.int .i64 op] h (.int .i64 (arity op)):=by
 refine CB (H:=Hint.none) (enM G) Tryz.func258 rfl (by kernel_rfl) (by kernel_rfl) (nLb (by kernel_rfl)) ?_
 show awp _ _ _ _ _ (EE _ [.tmp 2] _)
 have hcase:op < 1∨op > 25∨op=1∨op=2∨op=3∨op=4∨op=5∨op=6∨op=7∨op=8∨op=9∨op=10∨op=11∨op=12∨op=13∨op=14∨op=15∨op=16∨op=17∨op=18∨op=19∨op=20∨op=21∨op=22∨op=23∨op=24∨op=25:=by omega
 rcases hcase with h | h | rfl | rfl | rfl | rfl | rfl | rfl | rfl | rfl | rfl | rfl | rfl | rfl | rfl | rfl | rfl | rfl | rfl | rfl | rfl | rfl | rfl | rfl | rfl | rfl | rfl
 ·have hne : ∀ k:Int,1≤k→(op == k)=false:=fun k hk=>beq_eq_false_iff_ne.2 (by omega)
  have hd:decide (op < 1)=true:=by simp; omega
  have ha:arity op = -1:=by unfold arity; rw [if_pos (Or.inl h)]
  rw [ha]
  simp -implicitDefEqProofs only [BC,BQ,BA,BO,BL,BI,A8,CP,EF,CJ,C9,DU,AY,BB,BJ,BP,CO,FK,AO,AQ,AL,BD,AX,AC,AA,EQ,A7,AU,BH,BM,BG,AZ,CQ,DN,BR,AB,DY,DF,BF,↓reduceIte,Nat.reduceEqDiff,oGs,bNf,enP,hne 1 (by decide),hne 2 (by decide),hne 3 (by decide),hne 4 (by decide),hne 5 (by decide),hne 6 (by decide),hne 7 (by decide),hne 8 (by decide),hne 9 (by decide),hne 10 (by decide),hne 11 (by decide),hne 12 (by decide),hne 13 (by decide),hne 14 (by decide),hne 15 (by decide),hne 16 (by decide),hne 17 (by decide),hne 18 (by decide),hne 19 (by decide),hne 20 (by decide),hne 21 (by decide),hne 22 (by decide),hne 23 (by decide),hne 24 (by decide),hne 25 (by decide),hd]
  exact ⟨trivial,trivial⟩
 ·have hne : ∀ k:Int,k≤25→(op == k)=false:=fun k hk=>beq_eq_false_iff_ne.2 (by omega)
  have hd:decide (op < 1)=false:=by simp; omega
  have hd2:decide (op > 25)=true:=by simp; omega
  have ha:arity op = -1:=by unfold arity; rw [if_pos (Or.inr h)]
  rw [ha]
  simp -implicitDefEqProofs only [BC,BQ,BA,BO,BL,BI,A8,CP,EF,CJ,C9,DU,AY,BB,BJ,BP,CO,EK,AO,AQ,AL,BD,AX,AC,AA,A7,AU,BH,BM,BG,AZ,CQ,DK,BR,AB,DY,DF,EZ,BF,↓reduceIte,Nat.reduceEqDiff,oGs,bNf,enP,hne 1 (by decide),hne 2 (by decide),hne 3 (by decide),hne 4 (by decide),hne 5 (by decide),hne 6 (by decide),hne 7 (by decide),hne 8 (by decide),hne 9 (by decide),hne 10 (by decide),hne 11 (by decide),hne 12 (by decide),hne 13 (by decide),hne 14 (by decide),hne 15 (by decide),hne 16 (by decide),hne 17 (by decide),hne 18 (by decide),hne 19 (by decide),hne 20 (by decide),hne 21 (by decide),hne 22 (by decide),hne 23 (by decide),hne 24 (by decide),hne 25 (by decide),hd,hd2]
  exact ⟨trivial,trivial⟩
 all_goals
  simp -implicitDefEqProofs only [BC,BQ,BA,BO,BL,BI,A8,CP,EF,D8,CJ,C9,DU,AY,BB,BJ,BP,CO,EK,AO,AQ,AL,BD,AX,AC,AA,A7,AU,BH,BM,BG,AZ,CQ,DK,BR,AB,DY,DF,EZ,BF,↓reduceIte,Nat.reduceEqDiff,oGs,bNf,decide_false,enP,Int.reduceBEq,Int.reduceLT,Int.reduceGT]
  exact ⟨rfl,trivial⟩
set_option maxHeartbeats 2000000 in
theorem AOE (G:Nat→AV) (op:Int) (h:Hp):PCall (En G) 254 [.int .i64 op] h (.int .i64 (arity op)):=by
 refine CB (H:=Hint.none) (enM G) Tryz.func254 rfl (by kernel_rfl) (by kernel_rfl) (nLb (by kernel_rfl)) ?_
 show awp _ _ _ _ _ (EE _ [.tmp 2] _)
 have hcase:op < 1∨op > 25∨op=1∨op=2∨op=3∨op=4∨op=5∨op=6∨op=7∨op=8∨op=9∨op=10∨op=11∨op=12∨op=13∨op=14∨op=15∨op=16∨op=17∨op=18∨op=19∨op=20∨op=21∨op=22∨op=23∨op=24∨op=25:=by omega
 rcases hcase with h | h | rfl | rfl | rfl | rfl | rfl | rfl | rfl | rfl | rfl | rfl | rfl | rfl | rfl | rfl | rfl | rfl | rfl | rfl | rfl | rfl | rfl | rfl | rfl | rfl | rfl
 ·have hne : ∀ k:Int,1≤k→(op == k)=false:=fun k hk=>beq_eq_false_iff_ne.2 (by omega)
  have hd:decide (op < 1)=true:=by simp; omega
  have ha:arity op = -1:=by unfold arity; rw [if_pos (Or.inl h)]
  rw [ha]
  simp -implicitDefEqProofs only [BC,BQ,BA,BO,BL,BI,A8,CP,EF,CJ,C9,DU,AY,BB,BJ,BP,CO,FK,AO,AQ,AL,BD,AX,AC,AA,EQ,A7,AU,BH,BM,BG,AZ,CQ,DN,BR,AB,DY,DF,BF,↓reduceIte,Nat.reduceEqDiff,oGs,bNf,enP,hne 1 (by decide),hne 2 (by decide),hne 3 (by decide),hne 4 (by decide),hne 5 (by decide),hne 6 (by decide),hne 7 (by decide),hne 8 (by decide),hne 9 (by decide),hne 10 (by decide),hne 11 (by decide),hne 12 (by decide),hne 13 (by decide),hne 14 (by decide),hne 15 (by decide),hne 16 (by decide),hne 17 (by decide),hne 18 (by decide),hne 19 (by decide),hne 20 (by decide),hne 21 (by decide),hne 22 (by decide),hne 23 (by decide),hne 24 (by decide),hne 25 (by decide),hd]
  exact ⟨trivial,trivial⟩
 ·have hne : ∀ k:Int,k≤25→(op == k)=false:=fun k hk=>beq_eq_false_iff_ne.2 (by omega)
  have hd:decide (op < 1)=false:=by simp; omega
  have hd2:decide (op > 25)=true:=by simp; omega
  have ha:arity op = -1:=by unfold arity; rw [if_pos (Or.inr h)]
  rw [ha]
  simp -implicitDefEqProofs only [BC,BQ,BA,BO,BL,BI,A8,CP,EF,CJ,C9,DU,AY,BB,BJ,BP,CO,EK,AO,AQ,AL,BD,AX,AC,AA,A7,AU,BH,BM,BG,AZ,CQ,DK,BR,AB,DY,DF,EZ,BF,↓reduceIte,Nat.reduceEqDiff,oGs,bNf,enP,hne 1 (by decide),hne 2 (by decide),hne 3 (by decide),hne 4 (by decide),hne 5 (by decide),hne 6 (by decide),hne 7 (by decide),hne 8 (by decide),hne 9 (by decide),hne 10 (by decide),hne 11 (by decide),hne 12 (by decide),hne 13 (by decide),hne 14 (by decide),hne 15 (by decide),hne 16 (by decide),hne 17 (by decide),hne 18 (by decide),hne 19 (by decide),hne 20 (by decide),hne 21 (by decide),hne 22 (by decide),hne 23 (by decide),hne 24 (by decide),hne 25 (by decide),hd,hd2]
  exact ⟨trivial,trivial⟩
 all_goals
  simp -implicitDefEqProofs only [BC,BQ,BA,BO,BL,BI,A8,CP,D8,CJ,C9,DU,AY,BB,AO,AQ,AL,BD,AX,AC,AA,A7,AU,BH,BG,AZ,BR,AB,DY,BF,↓reduceIte,Nat.reduceEqDiff,oGs,bNf,enP,Int.reduceBEq,Int.reduceLT,Int.reduceGT]
  exact ⟨rfl,trivial⟩
def KQ (op:Int):Bool:=op == 2 || op == 3 || op == 24
theorem VA (G:Nat→AV) (op:Int) (h:Hp):PCall (En G) 246 [.int .i64 op] h (.bool (KQ op)):=by
 refine CB (H:=Hint.none) (enM G) Tryz.func246 rfl (by kernel_rfl) (by kernel_rfl) (nLb (by kernel_rfl)) ?_
 show awp _ _ _ _ _ (EE _ [.tmp 2] _)
 simp -implicitDefEqProofs only [BC,BA,A8,AY,BB,BJ,BP,CO,AO,AQ,AL,BD,AX,AC,AA,A7,AU,BH,BM,BG,AZ,BR,AB,DY,BF,↓reduceIte,Nat.reduceEqDiff,oGs,bNf,enP]
 cases ha:(op == 2) <;> cases hb:(op == 3)
 all_goals
  simp -implicitDefEqProofs only [BL,A8,CJ,AY,BB,BJ,BP,CO,EK,FK,AO,AQ,AL,BD,AX,AC,AA,EQ,A7,AU,BH,BM,BG,AZ,CQ,DN,DK,BR,AB,DY,BF,↓reduceIte,Nat.reduceEqDiff,oGs,bNf,enP,ha,hb]
  exact ⟨by simp [KQ,ha,hb],trivial⟩
def Y6 (op:Int) (n:Nat):Bool:=if op == 23 then ((n:Int) % 2 == 1) && decide ((n:Int)≥3) && decide ((n:Int)≤33) else ((n:Int) == arity op)
theorem ADO (G:Nat→AV) (e:Ex) (h:Hp):PCall (En G) 231 [.agg (ET e)] h (.bool (Y6 e.op e.args.length)):=by
 refine ACalls.pure0 rfl ?_
 refine CB (H:=Hint.none) (enM G) Tryz.func231 rfl (by kernel_rfl) (by kernel_rfl) (nLb (by kernel_rfl)) ?_
 show awp _ _ _ _ _ (EE _ [.tmp 2] _)
 simp -implicitDefEqProofs only [BC,BA,BI,A8,AY,BB,AO,AQ,AL,BD,AX,AC,AA,A7,AU,BH,BM,AZ,FV,BV,BR,BK,D6,CE,AB,DY,BF,↓reduceIte,Nat.reduceEqDiff,Nat.add_zero,Nat.zero_add,oGs,bNf,enP,ADP,IA,OY,bxE,DC AGT,DC ag3,YD,JW,lLm]
 generalize he:e.args.length=n
 have hm:(n:Int).tmod 2=(n:Int) % 2:=Int.tmod_eq_emod_of_nonneg (by omega)
 have b1:I4 Tryz.prog 3 .rem (.int .i64 (n:Int)) (.int .i64 2)=some (.int .i64 ((n:Int) % 2)):=by rw [AA8 _ _ _ _ _ (by decide),hm]
 refine CW (fun hc => ?_) (fun hc => ?_)
 ·simp -implicitDefEqProofs only [BC,BA,AY,BJ,BP,CO,AO,AQ,AL,BD,AX,AC,AA,A7,AU,BH,BG,BR,AB,DY,↓reduceIte,Nat.reduceEqDiff,oGs,bNf,enP,b1]
  cases ha:((n:Int) % 2 == 1) <;> cases hb:decide ((n:Int)≥3)
  all_goals
   simp -implicitDefEqProofs only [BL,A8,CP,CJ,AY,BB,BJ,BP,CO,FY,H7,AO,AQ,AL,BD,AX,AC,AA,EQ,A7,AU,BH,BM,BG,AZ,CQ,DN,DK,BR,AB,IE,GZ,↓reduceIte,Nat.reduceEqDiff,oGs,bNf,enP,ha,hb]
   exact ⟨by unfold Y6; rw [if_pos hc,ha,hb]; simp,_,rfl⟩
 ·simp -implicitDefEqProofs only [BC,BA,BO,A8,AY,AO,AQ,AL,BD,AX,AC,AA,A7,BX,BG,BV,BK,BZ,BU,AB,lMc,lMn,lAn,↓reduceIte,Nat.reduceEqDiff,Nat.add_zero,oGs,bNf,enP,IA,DC ag3,JW]
  refine (AKW G e.op _).use ?_
  simp -implicitDefEqProofs only [BL,A8,CJ,AY,BB,AO,AQ,AL,BD,AX,AC,AA,A7,AZ,BR,AB,DY,↓reduceIte,Nat.reduceEqDiff,oGs,bNf,enP]
  exact ⟨by unfold Y6; rw [if_neg (by rw [hc]; decide)],_,rfl⟩
end Go.Proofs.YtocilianjfhifaaGreatDoor.Cov
namespace Go.Proofs.YtocilianjfhifaaGreatDoor.Cov
open Sm Bins Go.Shelf Go.RowKit
def AQ2:Go.Shelf.Ren:=⟨fun | 145=>290 | 220=>304 | 219=>305 | 217=>306 | 225=>307 | 224=>308 | 267=>309 | 266=>310 | 314=>311 | n=>n,fun | 9=>9 | 4=>4 | 59=>261 | 3=>3 | 5=>5 | 46=>269 | 146=>273 | 51=>272 | n=>n,fun | 1=>1 | n=>n⟩
theorem A0H:Go.Proofs.Lays.n145 Tryz.prog AQ2 := {
 mixed:=by kernel_rfl,
 f145:=Tryz.func290.trans (congrArg some (by kernel_rfl)),
 f217:=Tryz.func306.trans (congrArg some (by kernel_rfl)),
 f219:=Tryz.func305.trans (congrArg some (by kernel_rfl)),
 f220:=Tryz.func304.trans (congrArg some (by kernel_rfl)),
 f224:=Tryz.func308.trans (congrArg some (by kernel_rfl)),
 f225:=Tryz.func307.trans (congrArg some (by kernel_rfl)),
 f266:=Tryz.func310.trans (congrArg some (by kernel_rfl)),
 f267:=Tryz.func309.trans (congrArg some (by kernel_rfl)),
 f314:=Tryz.func311.trans (congrArg some (by kernel_rfl)),
 t3:=Tryz.underlying3,
 a3:=Tryz.isAgg3,
 z3:=Tryz.sizeOf3,
 v3:=Tryz.zeroValue3,
 t4:=Tryz.underlying4,
 a4:=Tryz.isAgg4,
 z4:=Tryz.sizeOf4,
 v4:=Tryz.zeroValue4,
 t5:=Tryz.underlying5,
 a5:=Tryz.isAgg5,
 z5:=Tryz.sizeOf5,
 v5:=Tryz.zeroValue5,
 t9:=Tryz.underlying9,
 a9:=Tryz.isAgg9,
 z9:=Tryz.sizeOf9,
 v9:=Tryz.zeroValue9,
 t46:=Tryz.underlying269,
 a46:=Tryz.isAgg269,
 z46:=Tryz.sizeOf269,
 v46:=Tryz.zeroValue269,
 t51:=Tryz.underlying272,
 a51:=Tryz.isAgg272,
 z51:=Tryz.sizeOf272,
 v51:=Tryz.zeroValue272,
 t59:=Tryz.underlying261,
 a59:=Tryz.isAgg261,
 z59:=Tryz.sizeOf261,
 v59:=Tryz.zeroValue261,
 t146:=Tryz.underlying273,
 a146:=Tryz.isAgg273,
 z146:=Tryz.sizeOf273,
 v146:=Tryz.zeroValue273,
 g1:=by kernel_rfl }
structure GOk (G:Nat→AV):Prop where
 kw:KwG G
 mx : ∃ n,G 1 = .fptr 1 [[.int .i64 n]] 0 0
theorem AQE {G:Nat→AV} {g:Gh} {h:Hp} {w:World} {n:Nat} {k:IntKind} {z:Int} (S:SimH (En G) g h w) (hn:G n = .fptr 1 [[.int k z]] 0 0):w.cell? ⟨n,0,none⟩=some (.int k z):=by
 have:=S.glob n
 rw [enG,hn] at this
 generalize hp:Value.pointer (some ⟨n,0,none⟩)=p at this
 cases this with
 | fptr k' xs i j cb co c e fz cv h1 h2 h3 h4 =>
   simp only [Value.pointer.injEq,Option.some.injEq,Addr.mk.injEq] at hp
   obtain ⟨rfl,hco,_⟩:=hp
   have h5:=h3 0 0 (by simp) (by simp)
   have h6:=h4 0 0 _ _ rfl rfl
   generalize cv 0 0=u at h5 h6
   cases h6
   simp only [World.cell?,S.fro _ _ h1]
   subst hco
   exact h5
def cutV (s:ByteArray):AV := .tup [.str ⟨(Lib.cut s.data.toList [91]).1.toArray⟩,.str ⟨(Lib.cut s.data.toList [91]).2.1.toArray⟩,.bool (Lib.cut s.data.toList [91]).2.2]
theorem AQ1 (G:Nat→AV) (hG:GOk G) (s:ByteArray) (h:Hp) (hl:s.size≤1048576):PCall (En G) 290 [.str s,.str ⟨#[91]⟩] h (cutV s):=by
 refine PCall.of_reads (cok 290 G (by kernel_rfl)) fun g w cargs S ha => ?_
 obtain ⟨hsz,hget⟩:=ha
 obtain ⟨cv0,cv1,rfl⟩ : ∃ a b,cargs = #[a,b]:=by
  obtain ⟨l⟩:=cargs
  match l,hsz with
  | [a,b],_=>exact ⟨a,b,rfl⟩
 obtain rfl:=(hget 0 _ cv0 rfl rfl).str_inv
 obtain rfl:=(hget 1 _ cv1 rfl rfl).str_inv
 obtain ⟨z,hz⟩:=hG.mx
 have hc:=AQE S hz
 have:=Any.strings_Cut A0H s ⟨#[91]⟩ z w (by omega) hc
 refine ⟨_,?_,this⟩
 refine .tup _ _ rfl ?_
 intro i v cv h1 h2
 match i,h1,h2 with
 | 0,h1,h2=>simp at h1 h2; subst h1; subst h2; exact .str _ _
 | 1,h1,h2=>simp at h1 h2; subst h1; subst h2; exact .str _ _
 | 2,h1,h2=>simp at h1 h2; subst h1; subst h2; exact .bool _ _
def PI (s:ByteArray):Option (List UInt8 × UInt8) :=
 if 4≤s.data.toList.length then match s.data.toList.drop (s.data.toList.length - 3) with
  | [x,d,y]=>if (y == 93 && x == 91 && decide (48≤d.toNat) && decide (d.toNat < 56) && G8 ⟨(s.data.toList.take (s.data.toList.length - 3)).toArray⟩)=true then some (s.data.toList.take (s.data.toList.length - 3),d) else none
  | _=>none
 else none
def elemV (o:Option (List UInt8 × UInt8)):AV:=match o with
 | some (a,d) => .tup [.str ⟨a.toArray⟩,.int .i64 ((d.toNat:Int) - 48),.bool true]
 | none => .tup [.str ⟨#[]⟩,.int .i64 0,.bool false]
theorem AL2 {l:List UInt8} (h:G8 ⟨l.toArray⟩=true):l≠[]∧∀ b∈l,b≠91:=by
 have hw:RG ⟨l.toArray⟩=true:=by
  unfold G8 at h
  exact (Bool.and_eq_true_iff.1 (Bool.and_eq_true_iff.1 h).1).1
 unfold RG at hw
 obtain ⟨h1,h2⟩:=Bool.and_eq_true_iff.1 hw
 refine ⟨?_,?_⟩
 ·intro e; subst e; cases h1
 ·intro b hb e
  subst e
  have:=List.all_eq_true.1 h2 91 hb
  revert this; decide
theorem three {l:List UInt8} (h:3≤l.length) : ∃ a x d y,l=a ++ [x,d,y]:=by
 refine ⟨l.take (l.length - 3),?_⟩
 have h1:(l.drop (l.length - 3)).length=3:=by simp; omega
 match hm:l.drop (l.length - 3),h1 with
 | [x,d,y],_=>exact ⟨x,d,y,by rw [← hm,List.take_append_drop]⟩
theorem ACS {a:List UInt8} {x d y:UInt8} (ha:a≠[]):PI ⟨(a ++ [x,d,y]).toArray⟩=if (y == 93 && x == 91 && decide (48≤d.toNat) && decide (d.toNat < 56) && G8 ⟨a.toArray⟩)=true then some (a,d) else none:=by
 have hl:0 < a.length:=List.length_pos_iff.2 ha
 unfold PI
 simp only
 rw [if_pos (by simp; omega)]
 have e:(a ++ [x,d,y]).length - 3=a.length:=by simp
 rw [e,List.drop_left,List.take_left]
theorem AQV (s:ByteArray):PI s=if ((Lib.cut s.data.toList [91]).2.2 && G8 ⟨(Lib.cut s.data.toList [91]).1.toArray⟩)=true then match (Lib.cut s.data.toList [91]).2.1 with
  | [d,y]=>if (y == 93 && decide (48≤d.toNat) && decide (d.toNat < 56))=true then some ((Lib.cut s.data.toList [91]).1,d) else none
  | _=>none
 else none:=by
 obtain ⟨⟨l⟩⟩:=s
 have hocc : ∀ i,Lib.occAt l [91] i=true↔l[i]? = some 91:=by
  intro i
  unfold Lib.occAt
  rcases Nat.lt_or_ge i l.length with h | h
  ·rw [List.drop_eq_getElem_cons h,List.getElem?_eq_getElem h]
   simp [List.isPrefixOf]
   exact eq_comm
  ·rw [List.drop_eq_nil_of_le h,List.getElem?_eq_none h]; simp [List.isPrefixOf]
 -- an element name of the reference's kind
 have main : ∀ a d,a≠[]→G8 ⟨a.toArray⟩=true→l=a ++ [91,d,93]→Lib.cut l [91]=(a,[d,93],true):=by
  intro a d ha hn hl
  obtain ⟨_,hne⟩:=AL2 hn
  have hi:Lib.index l [91]=(a.length:Int):=by
   refine Lib.index_first (by rw [hl]; simp) ((hocc _).2 (by rw [hl]; simp)) fun j hj => ?_
   rw [← Bool.not_eq_true,hocc,hl,List.getElem?_append_left hj,List.getElem?_eq_getElem hj]
   intro e
   exact hne _ (List.getElem_mem hj) (Option.some.inj e)
  unfold Lib.cut
  rw [hi,if_pos (by omega),Int.toNat_natCast,hl,List.take_left,← List.drop_drop,List.drop_left]
  rfl
 show PI ⟨l.toArray⟩=_
 rcases hcase:PI ⟨l.toArray⟩ with _ | ⟨a,d⟩
 ·symm
  show (if _ then _ else none)=none
  simp only
  split
  ·rename_i hb
   rw [Bool.and_eq_true] at hb
   split
   ·rename_i d y hm
    split
    ·rename_i hd
     exfalso
     simp only [Bool.and_eq_true,beq_iff_eq,decide_eq_true_eq] at hd
     obtain ⟨⟨rfl,hd1⟩,hd2⟩:=hd
     obtain ⟨ha,_⟩:=AL2 hb.2
     have hc:Lib.cut l [91]=((Lib.cut l [91]).1,[d,93],true):=by
      rw [← hm]; have:=hb.1; cases hcc:Lib.cut l [91] with
      | mk p q=>cases q with
        | mk q1 q2=>rw [hcc] at this; simp at this; subst this; rfl
     have hl:l=(Lib.cut l [91]).1 ++ [91,d,93]:=by
      generalize (Lib.cut l [91]).1=b at hc
      unfold Lib.cut at hc
      split at hc
      ·rename_i h0
       obtain ⟨i,hi⟩ : ∃ i:Nat,Lib.index l [91]=i:=⟨(Lib.index l [91]).toNat,by omega⟩
       rw [hi] at hc
       simp only [Int.toNat_natCast,Prod.mk.injEq,List.length_singleton] at hc
       rcases Lib.index_spec l [91] with ⟨h1,_⟩ | ⟨j,h1,_,h3,_⟩
       ·omega
       ·have hj:i=j:=by omega
        subst hj
        have h4:=(hocc i).1 h3
        have h5:i < l.length:=(List.getElem?_eq_some_iff.1 h4).1
        have h6:l[i]=91:=by rw [List.getElem?_eq_getElem h5] at h4; exact Option.some.inj h4
        rw [← hc.1]
        calc l=l.take i ++ l.drop i:=(List.take_append_drop i l).symm
         _=l.take i ++ (l[i] :: l.drop (i+1)):=by rw [List.drop_eq_getElem_cons h5]
         _=l.take i ++ [91,d,93]:=by rw [h6,hc.2.1]
      ·simp at hc
     have:=ACS (x:=91) (d:=d) (y:=93) ha
     rw [← hl,hcase,if_pos (by simp [hb.2,hd1,hd2])] at this
     cases this
    ·rfl
   ·rfl
  ·rfl
 ·have h4:4≤l.length:=by
   unfold PI at hcase
   simp only at hcase
   split at hcase
   ·assumption
   ·cases hcase
  obtain ⟨b,x,d',y,rfl⟩:=three (show 3≤l.length by omega)
  have hb:b≠[]:=by intro e; subst e; simp at h4
  rw [ACS hb] at hcase
  split at hcase
  ·rename_i hc
   cases hcase
   simp only [Bool.and_eq_true,beq_iff_eq,decide_eq_true_eq] at hc
   obtain ⟨⟨⟨⟨rfl,rfl⟩,h1⟩,h2⟩,h3⟩:=hc
   simp only
   rw [main a d hb h3 rfl]
   simp [h3,h1,h2]
  ·cases hcase
end Go.Proofs.YtocilianjfhifaaGreatDoor.Cov
