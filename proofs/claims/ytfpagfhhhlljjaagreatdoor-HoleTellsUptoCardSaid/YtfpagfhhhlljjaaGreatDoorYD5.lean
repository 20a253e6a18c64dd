/- Part 5 of the proof (Ft, B1, B2, B3, B4, B5, B6, B7, E1, E2, E3); no condition. -/
import Derived.Test.YtfpagfhhhlljjaaGreatDoorProg
import Derived.KernelRfl
import Derived.Laws.RangeAny
import Derived.Shelf.Strings.Cut
import Derived.Lib.IndexMore
import Derived.Test.YtfpagfhhhlljjaaGreatDoorYD4
set_option linter.unusedVariables false
namespace Go.Proofs.YtfpagfhhhlljjaaGreatDoor.Sm

theorem sz3:szO Tryz.prog 3=some 1:=by kernel_rfl
theorem ag3:LJ Tryz.prog 3=some false:=by kernel_rfl
theorem ag4:LJ Tryz.prog 4=some false:=by kernel_rfl
theorem sz9:szO Tryz.prog 9=some 1:=by kernel_rfl
theorem ag9:LJ Tryz.prog 9=some false:=by kernel_rfl
theorem ZB:LJ Tryz.prog 22=some false:=by kernel_rfl
theorem AB5:LJ Tryz.prog 23=some false:=by kernel_rfl
theorem A3M:szO Tryz.prog 25=some 2:=by kernel_rfl
theorem A78:LJ Tryz.prog 25=some true:=by kernel_rfl
theorem ABB:szO Tryz.prog 26=some 1:=by kernel_rfl
theorem KO:LJ Tryz.prog 26=some false:=by kernel_rfl
theorem A3L:szO Tryz.prog 28=some 3:=by kernel_rfl
theorem A77:LJ Tryz.prog 28=some true:=by kernel_rfl
theorem A5C:szO Tryz.prog 33=some 1:=by kernel_rfl
theorem A76:LJ Tryz.prog 33=some false:=by kernel_rfl
theorem A3K:szO Tryz.prog 34=some 1:=by kernel_rfl
theorem AYZ:LJ Tryz.prog 34=some false:=by kernel_rfl
theorem AVK:szO Tryz.prog 46=some 1:=by kernel_rfl
theorem VT:LJ Tryz.prog 46=some false:=by kernel_rfl
theorem N7:szO Tryz.prog 48=some 4:=by kernel_rfl
theorem X4:LJ Tryz.prog 48=some true:=by kernel_rfl
theorem RD:LJ Tryz.prog 49=some false:=by kernel_rfl
theorem ZP:szO Tryz.prog 51=some 6:=by kernel_rfl
theorem AC7:LJ Tryz.prog 51=some true:=by kernel_rfl
theorem A5B:szO Tryz.prog 53=some 1:=by kernel_rfl
theorem SV:LJ Tryz.prog 53=some false:=by kernel_rfl
theorem X0:LJ Tryz.prog 54=some false:=by kernel_rfl
theorem YQ:szO Tryz.prog 56=some 4:=by kernel_rfl
theorem AC6:LJ Tryz.prog 56=some true:=by kernel_rfl
theorem A3J:szO Tryz.prog 59=some 2:=by kernel_rfl
theorem A9P:LJ Tryz.prog 59=some true:=by kernel_rfl
theorem A8O:szO Tryz.prog 60=some 1:=by kernel_rfl
theorem A13:LJ Tryz.prog 60=some false:=by kernel_rfl
theorem A3I:szO Tryz.prog 65=some 1:=by kernel_rfl
theorem AUY:LJ Tryz.prog 65=some false:=by kernel_rfl
theorem AN7:szO Tryz.prog 67=some 1:=by kernel_rfl
theorem UE:LJ Tryz.prog 67=some false:=by kernel_rfl
theorem XV:szO Tryz.prog 69=some 3:=by kernel_rfl
theorem AAZ:LJ Tryz.prog 69=some true:=by kernel_rfl
theorem ASS:szO Tryz.prog 81=some 4:=by kernel_rfl
theorem A75:LJ Tryz.prog 81=some true:=by kernel_rfl
theorem UJ:szO Tryz.prog 88=some 2:=by kernel_rfl
theorem ANQ:LJ Tryz.prog 88=some true:=by kernel_rfl
theorem AKQ:szO Tryz.prog 120=some 1:=by kernel_rfl
theorem A26:LJ Tryz.prog 120=some true:=by kernel_rfl
theorem A2J:szO Tryz.prog 184=some 2:=by kernel_rfl
theorem A8A:LJ Tryz.prog 184=some true:=by kernel_rfl
theorem A2I:szO Tryz.prog 205=some 1:=by kernel_rfl
theorem A79:LJ Tryz.prog 205=some true:=by kernel_rfl
theorem be4 : ∀ p q,JY Tryz.prog 4 .eql (.bool p) (.bool q)=some (.bool (p == q)):=fun p q=>AYO Tryz.prog 4 p q (by kernel_rfl)
theorem ln9 : ∀ s,L9 Tryz.prog 9 (.str s)=some (.int .i64 s.size):=A0S (by kernel_rfl:Tryz.prog.underlying 9=some .string)
theorem PG : ∀ h a i,G7 Tryz.prog h 22 a i=J3 6 h a i:=JS (by kernel_rfl:Tryz.prog.underlying 22=some (.slice 51)) ZP
theorem OE:(∀ m k xs,L9 Tryz.prog 22 (.sl m k xs)=some (.int .i64 xs.length))∧∀ b off len,L9 Tryz.prog 22 (.own b off len)=some (.int .i64 len):=PZ (by kernel_rfl:Tryz.prog.underlying 22=some (.slice 51))
theorem P5 : ∀ h a i,G7 Tryz.prog h 23 a i=J3 3 h a i:=JS (by kernel_rfl:Tryz.prog.underlying 23=some (.slice 69)) XV
theorem UU:(∀ m k xs,L9 Tryz.prog 23 (.sl m k xs)=some (.int .i64 xs.length))∧∀ b off len,L9 Tryz.prog 23 (.own b off len)=some (.int .i64 len):=PZ (by kernel_rfl:Tryz.prog.underlying 23=some (.slice 69))
theorem GU:(∀ b i j,D6 Tryz.prog 25 (.ptr b i j) 0=some (.ptr b i (j+0)))∧(∀ k xs i j,D6 Tryz.prog 25 (.fptr k xs i j) 0=some (.fptr k xs i (j+0))):=KI (by kernel_rfl:MW Tryz.prog 25 0 0=true)
theorem IV:(∀ b i j,D6 Tryz.prog 25 (.ptr b i j) 1=some (.ptr b i (j+1)))∧(∀ k xs i j,D6 Tryz.prog 25 (.fptr k xs i j) 1=some (.fptr k xs i (j+1))):=KI (by kernel_rfl:MW Tryz.prog 25 1 1=true)
theorem IB : ∀ h a i,G7 Tryz.prog h 26 a i=J3 1 h a i:=JS (by kernel_rfl:Tryz.prog.underlying 26=some (.slice 3)) sz3
theorem IZ:(∀ m k xs,L9 Tryz.prog 26 (.sl m k xs)=some (.int .i64 xs.length))∧∀ b off len,L9 Tryz.prog 26 (.own b off len)=some (.int .i64 len):=PZ (by kernel_rfl:Tryz.prog.underlying 26=some (.slice 3))
theorem VF:Tryz.prog.underlying 26=some (.slice 3):=by kernel_rfl
theorem YL:V8 Tryz.prog 3=some 1:=by kernel_rfl
theorem XC:OB Tryz.prog 3=some 8:=by kernel_rfl
theorem XA:(∀ b i j,D6 Tryz.prog 28 (.ptr b i j) 0=some (.ptr b i (j+0)))∧(∀ k xs i j,D6 Tryz.prog 28 (.fptr k xs i j) 0=some (.fptr k xs i (j+0))):=KI (by kernel_rfl:MW Tryz.prog 28 0 0=true)
theorem LY:(∀ b i j,D6 Tryz.prog 28 (.ptr b i j) 1=some (.ptr b i (j+1)))∧(∀ k xs i j,D6 Tryz.prog 28 (.fptr k xs i j) 1=some (.fptr k xs i (j+1))):=KI (by kernel_rfl:MW Tryz.prog 28 1 1=true)
theorem MP:(∀ b i j,D6 Tryz.prog 28 (.ptr b i j) 2=some (.ptr b i (j+2)))∧(∀ k xs i j,D6 Tryz.prog 28 (.fptr k xs i j) 2=some (.fptr k xs i (j+2))):=KI (by kernel_rfl:MW Tryz.prog 28 2 2=true)
theorem ATT : ∀ h a i,G7 Tryz.prog h 33 a i=J3 1 h a i:=JS (by kernel_rfl:Tryz.prog.underlying 33=some (.slice 46)) AVK
theorem AOW:(∀ m k xs,L9 Tryz.prog 33 (.sl m k xs)=some (.int .i64 xs.length))∧∀ b off len,L9 Tryz.prog 33 (.own b off len)=some (.int .i64 len):=PZ (by kernel_rfl:Tryz.prog.underlying 33=some (.slice 46))
theorem A49:Tryz.prog.underlying 33=some (.slice 46):=by kernel_rfl
theorem A8M:V8 Tryz.prog 46=some 1:=by kernel_rfl
theorem A64:OB Tryz.prog 46=some 24:=by kernel_rfl
theorem A4A : ∀ h a i,G7 Tryz.prog h 38 a i=J3 1 h a i:=JS (by kernel_rfl:Tryz.prog.underlying 38=some (.slice 60)) A8O
theorem AWP:(∀ m k xs,L9 Tryz.prog 38 (.sl m k xs)=some (.int .i64 xs.length))∧∀ b off len,L9 Tryz.prog 38 (.own b off len)=some (.int .i64 len):=PZ (by kernel_rfl:Tryz.prog.underlying 38=some (.slice 60))
theorem AAC : ∀ h a i,G7 Tryz.prog h 46 a i=J3 4 h a i:=JS (by kernel_rfl:Tryz.prog.underlying 46=some (.slice 48)) N7
theorem WS:(∀ m k xs,L9 Tryz.prog 46 (.sl m k xs)=some (.int .i64 xs.length))∧∀ b off len,L9 Tryz.prog 46 (.own b off len)=some (.int .i64 len):=PZ (by kernel_rfl:Tryz.prog.underlying 46=some (.slice 48))
theorem AGK:Tryz.prog.underlying 46=some (.slice 48):=by kernel_rfl
theorem AN1:V8 Tryz.prog 48=some 4:=by kernel_rfl
theorem APT:OB Tryz.prog 48=some 56:=by kernel_rfl
theorem I7:(∀ b i j,D6 Tryz.prog 48 (.ptr b i j) 0=some (.ptr b i (j+0)))∧(∀ k xs i j,D6 Tryz.prog 48 (.fptr k xs i j) 0=some (.fptr k xs i (j+0))):=KI (by kernel_rfl:MW Tryz.prog 48 0 0=true)
theorem ABT:(∀ b i j,D6 Tryz.prog 48 (.ptr b i j) 1=some (.ptr b i (j+1)))∧(∀ k xs i j,D6 Tryz.prog 48 (.fptr k xs i j) 1=some (.fptr k xs i (j+1))):=KI (by kernel_rfl:MW Tryz.prog 48 1 1=true)
theorem MF:(∀ b i j,D6 Tryz.prog 48 (.ptr b i j) 2=some (.ptr b i (j+2)))∧(∀ k xs i j,D6 Tryz.prog 48 (.fptr k xs i j) 2=some (.fptr k xs i (j+2))):=KI (by kernel_rfl:MW Tryz.prog 48 2 2=true)
theorem OA:(∀ b i j,D6 Tryz.prog 48 (.ptr b i j) 3=some (.ptr b i (j+3)))∧(∀ k xs i j,D6 Tryz.prog 48 (.fptr k xs i j) 3=some (.fptr k xs i (j+3))):=KI (by kernel_rfl:MW Tryz.prog 48 3 3=true)
theorem SA : ∀ h a i,G7 Tryz.prog h 49 a i=J3 4 h a i:=JS (by kernel_rfl:Tryz.prog.underlying 49=some (.slice 56)) YQ
theorem PE:(∀ m k xs,L9 Tryz.prog 49 (.sl m k xs)=some (.int .i64 xs.length))∧∀ b off len,L9 Tryz.prog 49 (.own b off len)=some (.int .i64 len):=PZ (by kernel_rfl:Tryz.prog.underlying 49=some (.slice 56))
theorem AFF:(∀ b i j,D6 Tryz.prog 51 (.ptr b i j) 0=some (.ptr b i (j+0)))∧(∀ k xs i j,D6 Tryz.prog 51 (.fptr k xs i j) 0=some (.fptr k xs i (j+0))):=KI (by kernel_rfl:MW Tryz.prog 51 0 0=true)
theorem Y6:(∀ b i j,D6 Tryz.prog 51 (.ptr b i j) 1=some (.ptr b i (j+1)))∧(∀ k xs i j,D6 Tryz.prog 51 (.fptr k xs i j) 1=some (.fptr k xs i (j+1))):=KI (by kernel_rfl:MW Tryz.prog 51 1 1=true)
theorem IE:(∀ b i j,D6 Tryz.prog 51 (.ptr b i j) 2=some (.ptr b i (j+5)))∧(∀ k xs i j,D6 Tryz.prog 51 (.fptr k xs i j) 2=some (.fptr k xs i (j+5))):=KI (by kernel_rfl:MW Tryz.prog 51 2 5=true)
theorem XX : ∀ h a i,G7 Tryz.prog h 53 a i=J3 2 h a i:=JS (by kernel_rfl:Tryz.prog.underlying 53=some (.slice 88)) UJ
theorem PN:(∀ m k xs,L9 Tryz.prog 53 (.sl m k xs)=some (.int .i64 xs.length))∧∀ b off len,L9 Tryz.prog 53 (.own b off len)=some (.int .i64 len):=PZ (by kernel_rfl:Tryz.prog.underlying 53=some (.slice 88))
theorem AGJ:Tryz.prog.underlying 53=some (.slice 88):=by kernel_rfl
theorem AZD:V8 Tryz.prog 88=some 2:=by kernel_rfl
theorem A1P:OB Tryz.prog 88=some 16:=by kernel_rfl
theorem AGO : ∀ h a i,G7 Tryz.prog h 54 a i=J3 1 h a i:=JS (by kernel_rfl:Tryz.prog.underlying 54=some (.slice 53)) A5B
theorem V4:(∀ m k xs,L9 Tryz.prog 54 (.sl m k xs)=some (.int .i64 xs.length))∧∀ b off len,L9 Tryz.prog 54 (.own b off len)=some (.int .i64 len):=PZ (by kernel_rfl:Tryz.prog.underlying 54=some (.slice 53))
theorem AFE:(∀ b i j,D6 Tryz.prog 56 (.ptr b i j) 0=some (.ptr b i (j+0)))∧(∀ k xs i j,D6 Tryz.prog 56 (.fptr k xs i j) 0=some (.fptr k xs i (j+0))):=KI (by kernel_rfl:MW Tryz.prog 56 0 0=true)
theorem ND:(∀ b i j,D6 Tryz.prog 56 (.ptr b i j) 1=some (.ptr b i (j+1)))∧(∀ k xs i j,D6 Tryz.prog 56 (.fptr k xs i j) 1=some (.fptr k xs i (j+1))):=KI (by kernel_rfl:MW Tryz.prog 56 1 1=true)
theorem P7:(∀ b i j,D6 Tryz.prog 56 (.ptr b i j) 2=some (.ptr b i (j+2)))∧(∀ k xs i j,D6 Tryz.prog 56 (.fptr k xs i j) 2=some (.fptr k xs i (j+2))):=KI (by kernel_rfl:MW Tryz.prog 56 2 2=true)
theorem N9:(∀ b i j,D6 Tryz.prog 56 (.ptr b i j) 3=some (.ptr b i (j+3)))∧(∀ k xs i j,D6 Tryz.prog 56 (.fptr k xs i j) 3=some (.fptr k xs i (j+3))):=KI (by kernel_rfl:MW Tryz.prog 56 3 3=true)
theorem APB:(∀ b i j,D6 Tryz.prog 59 (.ptr b i j) 0=some (.ptr b i (j+0)))∧(∀ k xs i j,D6 Tryz.prog 59 (.fptr k xs i j) 0=some (.fptr k xs i (j+0))):=KI (by kernel_rfl:MW Tryz.prog 59 0 0=true)
theorem AXN:(∀ b i j,D6 Tryz.prog 59 (.ptr b i j) 1=some (.ptr b i (j+1)))∧(∀ k xs i j,D6 Tryz.prog 59 (.fptr k xs i j) 1=some (.fptr k xs i (j+1))):=KI (by kernel_rfl:MW Tryz.prog 59 1 1=true)
theorem A0U : ∀ h a i,G7 Tryz.prog h 60 a i=J3 2 h a i:=JS (by kernel_rfl:Tryz.prog.underlying 60=some (.slice 59)) A3J
theorem AWO:(∀ m k xs,L9 Tryz.prog 60 (.sl m k xs)=some (.int .i64 xs.length))∧∀ b off len,L9 Tryz.prog 60 (.own b off len)=some (.int .i64 len):=PZ (by kernel_rfl:Tryz.prog.underlying 60=some (.slice 59))
theorem ATS : ∀ h a i,G7 Tryz.prog h 65 a i=J3 1 h a i:=JS (by kernel_rfl:Tryz.prog.underlying 65=some (.slice 9)) sz9
theorem AL5:(∀ m k xs,L9 Tryz.prog 65 (.sl m k xs)=some (.int .i64 xs.length))∧∀ b off len,L9 Tryz.prog 65 (.own b off len)=some (.int .i64 len):=PZ (by kernel_rfl:Tryz.prog.underlying 65=some (.slice 9))
theorem AZL:Tryz.prog.underlying 65=some (.slice 9):=by kernel_rfl
theorem AZC:V8 Tryz.prog 9=some 1:=by kernel_rfl
theorem A1O:OB Tryz.prog 9=some 16:=by kernel_rfl
theorem PO : ∀ h a i,G7 Tryz.prog h 67 a i=J3 1 h a i:=JS (by kernel_rfl:Tryz.prog.underlying 67=some (.slice 26)) ABB
theorem AC0:(∀ m k xs,L9 Tryz.prog 67 (.sl m k xs)=some (.int .i64 xs.length))∧∀ b off len,L9 Tryz.prog 67 (.own b off len)=some (.int .i64 len):=PZ (by kernel_rfl:Tryz.prog.underlying 67=some (.slice 26))
theorem AIQ:Tryz.prog.underlying 67=some (.slice 26):=by kernel_rfl
theorem AN0:V8 Tryz.prog 26=some 1:=by kernel_rfl
theorem AJ3:OB Tryz.prog 26=some 24:=by kernel_rfl
theorem AFD:(∀ b i j,D6 Tryz.prog 69 (.ptr b i j) 0=some (.ptr b i (j+0)))∧(∀ k xs i j,D6 Tryz.prog 69 (.fptr k xs i j) 0=some (.fptr k xs i (j+0))):=KI (by kernel_rfl:MW Tryz.prog 69 0 0=true)
theorem JH:(∀ b i j,D6 Tryz.prog 69 (.ptr b i j) 1=some (.ptr b i (j+1)))∧(∀ k xs i j,D6 Tryz.prog 69 (.fptr k xs i j) 1=some (.fptr k xs i (j+1))):=KI (by kernel_rfl:MW Tryz.prog 69 1 1=true)
theorem QP:(∀ b i j,D6 Tryz.prog 69 (.ptr b i j) 2=some (.ptr b i (j+2)))∧(∀ k xs i j,D6 Tryz.prog 69 (.fptr k xs i j) 2=some (.fptr k xs i (j+2))):=KI (by kernel_rfl:MW Tryz.prog 69 2 2=true)
theorem A6L : ∀ h a i,G7 Tryz.prog h 73 a i=J3 1 h a i:=JS (by kernel_rfl:Tryz.prog.underlying 73=some (.slice 33)) A5C
theorem A56:(∀ m k xs,L9 Tryz.prog 73 (.sl m k xs)=some (.int .i64 xs.length))∧∀ b off len,L9 Tryz.prog 73 (.own b off len)=some (.int .i64 len):=PZ (by kernel_rfl:Tryz.prog.underlying 73=some (.slice 33))
theorem A8N:Tryz.prog.underlying 73=some (.slice 33):=by kernel_rfl
theorem A8L:V8 Tryz.prog 33=some 1:=by kernel_rfl
theorem A9G:OB Tryz.prog 33=some 24:=by kernel_rfl
theorem OO:(∀ b i j,D6 Tryz.prog 81 (.ptr b i j) 0=some (.ptr b i (j+0)))∧(∀ k xs i j,D6 Tryz.prog 81 (.fptr k xs i j) 0=some (.fptr k xs i (j+0))):=KI (by kernel_rfl:MW Tryz.prog 81 0 0=true)
theorem N8:(∀ b i j,D6 Tryz.prog 81 (.ptr b i j) 1=some (.ptr b i (j+1)))∧(∀ k xs i j,D6 Tryz.prog 81 (.fptr k xs i j) 1=some (.fptr k xs i (j+1))):=KI (by kernel_rfl:MW Tryz.prog 81 1 1=true)
theorem AJQ:(∀ b i j,D6 Tryz.prog 81 (.ptr b i j) 2=some (.ptr b i (j+2)))∧(∀ k xs i j,D6 Tryz.prog 81 (.fptr k xs i j) 2=some (.fptr k xs i (j+2))):=KI (by kernel_rfl:MW Tryz.prog 81 2 2=true)
theorem AJP:(∀ b i j,D6 Tryz.prog 81 (.ptr b i j) 3=some (.ptr b i (j+3)))∧(∀ k xs i j,D6 Tryz.prog 81 (.fptr k xs i j) 3=some (.fptr k xs i (j+3))):=KI (by kernel_rfl:MW Tryz.prog 81 3 3=true)
theorem UD:(∀ b i j,D6 Tryz.prog 88 (.ptr b i j) 0=some (.ptr b i (j+0)))∧(∀ k xs i j,D6 Tryz.prog 88 (.fptr k xs i j) 0=some (.fptr k xs i (j+0))):=KI (by kernel_rfl:MW Tryz.prog 88 0 0=true)
theorem SI:(∀ b i j,D6 Tryz.prog 88 (.ptr b i j) 1=some (.ptr b i (j+1)))∧(∀ k xs i j,D6 Tryz.prog 88 (.fptr k xs i j) 1=some (.fptr k xs i (j+1))):=KI (by kernel_rfl:MW Tryz.prog 88 1 1=true)
theorem AR7:(∀ b i j,D6 Tryz.prog 118 (.ptr b i j) 0=some (.ptr b i (j+0)))∧(∀ k xs i j,D6 Tryz.prog 118 (.fptr k xs i j) 0=some (.fptr k xs i (j+0))):=KI (by kernel_rfl:MW Tryz.prog 118 0 0=true)
theorem AJS:(∀ b i j,D6 Tryz.prog 118 (.ptr b i j) 1=some (.ptr b i (j+1)))∧(∀ k xs i j,D6 Tryz.prog 118 (.fptr k xs i j) 1=some (.fptr k xs i (j+1))):=KI (by kernel_rfl:MW Tryz.prog 118 1 1=true)
theorem AAK:(∀ b i j,D6 Tryz.prog 118 (.ptr b i j) 2=some (.ptr b i (j+2)))∧(∀ k xs i j,D6 Tryz.prog 118 (.fptr k xs i j) 2=some (.fptr k xs i (j+2))):=KI (by kernel_rfl:MW Tryz.prog 118 2 2=true)
theorem AR6:(∀ b i j,D6 Tryz.prog 118 (.ptr b i j) 3=some (.ptr b i (j+3)))∧(∀ k xs i j,D6 Tryz.prog 118 (.fptr k xs i j) 3=some (.fptr k xs i (j+3))):=KI (by kernel_rfl:MW Tryz.prog 118 3 3=true)
theorem AJR:(∀ b i j,D6 Tryz.prog 118 (.ptr b i j) 4=some (.ptr b i (j+4)))∧(∀ k xs i j,D6 Tryz.prog 118 (.fptr k xs i j) 4=some (.fptr k xs i (j+4))):=KI (by kernel_rfl:MW Tryz.prog 118 4 4=true)
theorem Q5:(∀ b i j,D6 Tryz.prog 120 (.ptr b i j) 0=some (.ptr b i (j+0)))∧(∀ k xs i j,D6 Tryz.prog 120 (.fptr k xs i j) 0=some (.fptr k xs i (j+0))):=KI (by kernel_rfl:MW Tryz.prog 120 0 0=true)
theorem A03:(∀ b i j,D6 Tryz.prog 184 (.ptr b i j) 0=some (.ptr b i (j+0)))∧(∀ k xs i j,D6 Tryz.prog 184 (.fptr k xs i j) 0=some (.fptr k xs i (j+0))):=KI (by kernel_rfl:MW Tryz.prog 184 0 0=true)
theorem AR5:(∀ b i j,D6 Tryz.prog 184 (.ptr b i j) 1=some (.ptr b i (j+1)))∧(∀ k xs i j,D6 Tryz.prog 184 (.fptr k xs i j) 1=some (.fptr k xs i (j+1))):=KI (by kernel_rfl:MW Tryz.prog 184 1 1=true)
theorem A02:(∀ b i j,D6 Tryz.prog 205 (.ptr b i j) 0=some (.ptr b i (j+0)))∧(∀ k xs i j,D6 Tryz.prog 205 (.fptr k xs i j) 0=some (.fptr k xs i (j+0))):=KI (by kernel_rfl:MW Tryz.prog 205 0 0=true)
theorem A6Z : ∀ n,XE Tryz.prog 3 5 (.int .i64 n)=some (.int .u8 (IntKind.u8.wrap n)):=fun n=>AAS (ds := .int .i64) Tryz.prog .i64 n (by kernel_rfl) (by kernel_rfl)
theorem A1D : ∀ n,XE Tryz.prog 3 247 (.int .i64 n)=some (.int .u16 (IntKind.u16.wrap n)):=fun n=>AAS (ds := .int .i64) Tryz.prog .i64 n (by kernel_rfl) (by kernel_rfl)
theorem AX3 : ∀ n,XE Tryz.prog 5 3 (.int .u8 n)=some (.int .i64 (IntKind.i64.wrap n)):=fun n=>AAS (ds := .int .u8) Tryz.prog .u8 n (by kernel_rfl) (by kernel_rfl)
theorem A1E : ∀ n,XE Tryz.prog 247 3 (.int .u16 n)=some (.int .i64 (IntKind.i64.wrap n)):=fun n=>AAS (ds := .int .u16) Tryz.prog .u16 n (by kernel_rfl) (by kernel_rfl)
noncomputable def En (G:Nat→AV):Env:=⟨Tryz.prog,G,none⟩
theorem enP (G:Nat→AV):(En G).P=Tryz.prog:=rfl
theorem enG (G:Nat→AV):(En G).G=G:=rfl
theorem enM (G:Nat→AV):(En G).P.follows .mixedOrders=true:=by kernel_rfl
theorem acN {G:Nat→AV}{f:FuncId}{fn:Func}{c:Code}{args:List AV}{h:Hp}{R:AV→Hp→Prop}(hf:(En G).P.funcs[f]? = some fn)(hb:fn.body=some c)(hw:awp (En G) Hint.none c (OI args) h (EM (En G).P fn.results.toList R))(h1:(fn.name == "runtime.NumGoroutine")=false:=by kernel_rfl) (h2:TT fn.ntmps c=true:=by kernel_rfl) (h3:Nat.ble args.length fn.ntmps=true:=by kernel_rfl):ACalls (En G) f args h R:=MJ (enM G) hf hb h1 h2 (Nat.le_of_ble_eq_true h3) hw
end Go.Proofs.YtfpagfhhhlljjaaGreatDoor.Sm
namespace Go.Proofs.YtfpagfhhhlljjaaGreatDoor.Bins
open Sm
structure Rng where
 lo:Int
 hi:Int
 deriving DecidableEq
def encR (r:Rng):List AV := [.int .i64 r.lo,.int .i64 r.hi]
theorem AAN (r:Rng):(encR r).length=2:=rfl
theorem TR (r:Rng):(encR r)[0]? = some (.int .i64 r.lo):=rfl
theorem SK (r:Rng):(encR r)[1]? = some (.int .i64 r.hi):=rfl
def inside (xs:List Rng)(v:Int):Bool:=xs.any fun r=>decide (r.lo≤v) && decide (v≤r.hi)
theorem KT {α:Type}(p:α→Bool)(xs:List α)(k:Nat)(h:k < xs.length):(xs.drop k).any p=(p xs[k] || (xs.drop (k+1)).any p):=by
 rw[List.drop_eq_getElem_cons h,List.any_cons]
theorem bxR (h:Hp)(r:Rng):O7 h (.agg (encR r))=some (.ptr h.length 0 0,h++[.live 2 [encR r]]):=rfl
end Go.Proofs.YtfpagfhhhlljjaaGreatDoor.Bins
set_option linter.unusedSimpArgs false
set_option maxRecDepth 8000
namespace Go.Proofs.YtfpagfhhhlljjaaGreatDoor.Bins
open Sm
open Bool renaming not_false→jC,eq_iff_iff→qU,and_eq_true→jX,true_or→wU,false_or→qR,not_eq_true→yC
open List renaming length_map→jH,append_assoc→zH,drop_eq_nil_of_le→jV,map_cons→jD,map_nil→jE,findIdx?_eq_some_iff_getElem→qZ,all_eq_true→zI,take_succ_eq_append_getElem→zN,all_cons→wR,take_of_length_le→jW,findIdx?_eq_none_iff→wC,append_nil→jF,any_eq_true→qH,any_eq_false→wS,getElem?_cons_zero→zB
open Nat renaming le_of_ble_eq_true→jI,reduceEqDiff→jB,add_zero→jK,zero_add→jG,reduceAdd→jM,lt_or_ge→zM,eq_zero_or_pos→wI
open Option renaming getD_some→jA
def bad (r:Rng):Bool:=decide (r.lo < 0) || decide (r.lo > r.hi) || decide (r.hi > 65535)
def JZ (xs:List Rng):Int:=if xs.length > 64 then 2 else if xs.any bad then 1 else 0
theorem ACD {xs:List Rng}(h:xs.length > 64):JZ xs=2:=by simp [JZ,h]
theorem WM {xs:List Rng}(h : ¬ xs.length > 64)(hb:xs.any bad=true):JZ xs=1:=by simp [JZ,h,hb]
theorem YW {xs:List Rng}(h : ¬ xs.length > 64)(hb:xs.any bad=false):JZ xs=0:=by simp [JZ,h,hb]
theorem AYY (h:Hp):KN Tryz.prog h 88=some (.ptr h.length 0 0,h++[.live 2 [[.int .i64 0,.int .i64 0]]]):=KD (row := [.int .i64 0,.int .i64 0]) (by kernel_rfl)
theorem AVR (h:Hp)(r:Rng)(row:List AV)(hr:row.length=2):FP Tryz.prog (h++[.live 2 [row]]) 88 (.ptr h.length 0 0) (.agg (encR r))=some (h++[.live 2 [encR r]]):=by
 rw[OW (cs:=encR r) rfl UJ (by simp [hr,encR])]
 simp [splice,hr,encR]
theorem ALF (G:Nat→AV)(xs:List Rng)(m:SM)(h:Hp)(hl:xs.length≤1099511627776) :
  PCall (En G) 133 [.sl m 2 (xs.map encR)] h (.int .i64 (JZ xs)):=by
 refine ACalls.pure0 rfl ?_
 refine acN Tryz.func133 rfl ?_
 show awp _ _ _ _ _ (EM _ [.tmp 2] _)
 simp -implicitDefEqProofs only[vQ,BD,↓reduceIte,jB,enP,PN,jH]
 refine CU (fun hc => ?_) (fun hc => ?_)
 ·simp -implicitDefEqProofs only[vQ,BD,↓reduceIte]
  exact⟨by rw[ACD (by simp at hc; omega)],[],by simp⟩
 simp -implicitDefEqProofs only[vQ,BD,↓reduceIte,jB,enP,PN,jH]
 have h64 : ¬ xs.length > 64:=by simp at hc; omega
 refine DL (fun n F H => ∃ k,n+k=xs.length∧F 8 = .sl m 2 (xs.map encR)∧F 9 = .int .i64 xs.length∧F 10 = .int .i64 (k:Nat)∧(∃ x,H=h++x)∧xs.any bad=(xs.drop k).any bad) xs.length ⟨0,by simp,rfl,rfl,rfl,⟨[],by simp⟩,rfl⟩ ?_
 rintro n F H ⟨k,hk,f8,f9,f10,⟨x,rfl⟩,hin⟩
 simp -implicitDefEqProofs only[vQ,BD,↓reduceIte,enP,f8,f9,f10]
 refine CU (fun hc => ?_) (fun hc => ?_)
 ·have hc':k < xs.length:=by simpa using hc
  have hs:=KT bad xs k hc'
  simp -implicitDefEqProofs only[vQ,CP,BD,↓reduceIte,jB,enP,XX,UD,Option.getD_none,f8,f9,f10,DN hc',FU ANQ UJ AAN hc',AYY,AVR _ _ [.int .i64 0,.int .i64 0] rfl,DW ag3,TR,SK]
  rw[hs] at hin
  have fin:bad xs[k]=true→JZ xs=1:=fun hb=>WM h64 (by rw[hin,hb]; rfl)
  have nxt:bad xs[k]=false→xs.any bad=(xs.drop (k+1)).any bad:=fun hb=>by rw[hin,hb]; rfl
  refine I4 (fun ha => ?_) (fun ha => ?_)
  ·simp -implicitDefEqProofs only[vQ,CP,BD,EW,↓reduceIte,jB,ha]
   exact⟨by rw[fin (by unfold bad; rw[ha]; rfl)],_,by rw[zH]⟩
  simp -implicitDefEqProofs only[vQ,CP,BD,↓reduceIte,jB,enP,UD,SI,ha,DW ag3,TR,SK]
  refine I4 (fun hb => ?_) (fun hb => ?_)
  ·simp -implicitDefEqProofs only[vQ,CP,BD,EW,↓reduceIte,jB,hb]
   exact⟨by rw[fin (by unfold bad; rw[hb]; simp)],_,by rw[zH]⟩
  simp -implicitDefEqProofs only[vQ,CP,BD,↓reduceIte,jB,enP,SI,hb,DW ag3,TR,SK]
  refine CU (fun hc => ?_) (fun hc => ?_)
  ·simp -implicitDefEqProofs only[vQ,BD,↓reduceIte]
   exact⟨by rw[fin (by unfold bad; rw[hc]; simp)],_,by rw[zH]⟩
  ·simp -implicitDefEqProofs only[vQ,BD,↓reduceIte,jB,enP,f10,wrap_succ (show k < 9223372036854775807 by omega)]
   exact⟨n - 1,by omega,k+1,by omega,f8,f9,rfl,⟨_,by rw[zH]⟩,nxt (by unfold bad; rw[ha,hb,hc]; rfl)⟩
 ·have hc' : ¬ k < xs.length:=by simpa using hc
  simp -implicitDefEqProofs only[vQ,BD,↓reduceIte]
  rw[jV (by omega)] at hin
  exact⟨by rw[YW h64 hin],_,rfl⟩
theorem AOJ (G:Nat→AV)(xs:List Rng)(m:SM)(h:Hp) :
  PCall (En G) 139 [.sl m 2 (xs.map encR)] h (.int .i64 (JZ xs)):=by
 refine acN Tryz.func139 rfl ?_
 show awp _ _ _ _ _ (EM _ [.tmp 2] _)
 simp -implicitDefEqProofs only[vQ,BD,↓reduceIte,jB,enP,PN,jH]
 refine CU (fun hc => ?_) (fun hc => ?_)
 ·simp -implicitDefEqProofs only[vQ,BD,↓reduceIte]
  exact⟨by rw[ACD (by simp at hc; omega)],trivial⟩
 simp -implicitDefEqProofs only[vQ,BD,jH]
 have h64 : ¬ xs.length > 64:=by simp at hc; omega
 refine DL (fun n F H => ∃ k,n+k=xs.length∧F 0 = .sl m 2 (xs.map encR)∧F 3 = .int .i64 (k:Nat)∧H=h∧xs.any bad=(xs.drop k).any bad) xs.length ⟨0,by simp,rfl,rfl,rfl,rfl⟩ ?_
 rintro n F H ⟨k,hk,f0,f3,rfl,hin⟩
 simp -implicitDefEqProofs only[vQ,BD,↓reduceIte,jB,enP,PN,f0,f3,jH]
 refine CU (fun hc => ?_) (fun hc => ?_)
 ·have hc':k < xs.length:=by simpa using hc
  rw[KT bad xs k hc'] at hin
  have fin:bad xs[k]=true→JZ xs=1:=fun hb=>WM h64 (by rw[hin,hb]; rfl)
  have nxt:bad xs[k]=false→xs.any bad=(xs.drop (k+1)).any bad:=fun hb=>by rw[hin,hb]; rfl
  simp -implicitDefEqProofs only[vQ]
  refine EY (by kernel_rfl) ?_
  simp -implicitDefEqProofs only[vQ,CP,↓reduceIte,jB,jM,enP,XX,UD,f0,f3,DN hc',CY ag3 hc',TR,SK]
  refine AIM (fun ha => ?_) (fun ha => ?_)
  ·simp -implicitDefEqProofs only[vQ,AA4,CP,BD,EW,↓reduceIte,jB,jM,ha]
   exact⟨by rw[fin (by unfold bad; rw[ha]; rfl)],trivial⟩
  simp -implicitDefEqProofs only[vQ,SY,CP,↓reduceIte,jB,jM,enP,XX,UD,SI,ha,f0,f3,DN hc',CY ag3 hc',TR,SK]
  refine AIM (fun hb => ?_) (fun hb => ?_)
  ·simp -implicitDefEqProofs only[vQ,AA4,CP,BD,EW,↓reduceIte,jB,jM,hb]
   exact⟨by rw[fin (by unfold bad; rw[hb]; simp)],trivial⟩
  simp -implicitDefEqProofs only[vQ,SY,CP,↓reduceIte,jB,jM,enP,XX,SI,hb,f0,f3,DN hc',CY ag3 hc',TR,SK]
  refine CU (fun hc => ?_) (fun hc => ?_)
  ·simp -implicitDefEqProofs only[vQ,BD,↓reduceIte]
   exact⟨by rw[fin (by unfold bad; rw[hc]; simp)],trivial⟩
  ·simp -implicitDefEqProofs only[vQ,BD,↓reduceIte,jB,enP,f3,wrap_succ (show k < 9223372036854775807 by omega)]
   exact⟨n - 1,by omega,k+1,by omega,f0,rfl,trivial,nxt (by unfold bad; rw[ha,hb,hc]; rfl)⟩
 ·have hc' : ¬ k < xs.length:=by simpa using hc
  simp -implicitDefEqProofs only[vQ,BD,↓reduceIte]
  rw[jV (by omega)] at hin
  exact⟨by rw[YW h64 hin],trivial⟩
structure Rs where
 m:SM
 l:List Rng
def AXS (r:Rs):AV := .sl r.m 2 (r.l.map encR)
def encS (r:Rs):List AV := [AXS r]
structure Bin where
 name:ByteArray
 kind:Int
 ranges:Rs
 sm:SM
 steps:List Rs
def G9 (b:Bin):List AV := [.str b.name,.int .i64 b.kind,AXS b.ranges,.sl b.sm 1 (b.steps.map encS)]
theorem AMZ (b:Bin):(G9 b)[0]? = some (.str b.name):=rfl
theorem QV (b:Bin):(G9 b)[1]? = some (.int .i64 b.kind):=rfl
theorem YI (b:Bin):(G9 b)[2]? = some (.sl b.ranges.m 2 (b.ranges.l.map encR)):=rfl
theorem QU (b:Bin):(G9 b)[3]? = some (.sl b.sm 1 (b.steps.map encS)):=rfl
theorem MG (b:Bin):(G9 b).length=4:=rfl
theorem YH (r:Rs):(encS r)[0]? = some (.sl r.m 2 (r.l.map encR)):=rfl
theorem bxB (h:Hp)(b:Bin):O7 h (.agg (G9 b))=some (.ptr h.length 0 0,h++[.live 4 [G9 b]]):=rfl
theorem ldB (h:Hp)(b:Bin):D8 Tryz.prog (h++[.live 4 [G9 b]]) 56 (.ptr h.length 0 0)=some (.agg (G9 b)):=UT AC6 YQ (by simp [G9])
def TI (b:Bin):SM:=if b.ranges.l.length > 0 then .full else b.sm
def sets (b:Bin):List Rs:=if b.ranges.l.length > 0 then [b.ranges] else b.steps
theorem A7E (h:Hp)(r:Rs):FM Tryz.prog false h 54 1 [(0,.sl r.m 2 (r.l.map encR))]=some (.sl .full 1 ([r].map encS),h):=by
 have:(AD5 1 0 [(0,AV.sl r.m 2 (r.l.map encR))])=some [[.sl r.m 2 (r.l.map encR)]]:=rfl
 simp only[FM,Tryz.underlying54,A5B,this]
 have hz:V8 Tryz.prog 53=some 1:=by kernel_rfl
 simp [hz,AV.frozen,encS,AXS]
theorem AHD (G:Nat→AV)(b:Bin)(h:Hp):PCall (En G) 132 [.agg (G9 b)] h (.sl (TI b) 1 ((sets b).map encS)):=by
 refine ACalls.pure0 rfl ?_
 refine acN Tryz.func132 rfl ?_
 show awp _ _ _ _ _ (EM _ [.tmp 2] _)
 simp -implicitDefEqProofs only[vQ,BD,↓reduceIte,jB,enP,PN,P7,bxB,DW SV,YI,jH]
 refine CU (fun hc => ?_) (fun hc => ?_)
 ·have hc':b.ranges.l.length > 0:=by simpa using hc
  simp -implicitDefEqProofs only[vQ,BD,↓reduceIte,jB,enP,P7,DW SV,YI,A7E]
  exact⟨by rw[TI,sets,if_pos hc',if_pos hc']; rfl,_,rfl⟩
 ·have hc' : ¬ b.ranges.l.length > 0:=by simpa using hc
  simp -implicitDefEqProofs only[vQ,BD,↓reduceIte,jB,enP,N9,DW X0,QU]
  exact⟨by rw[TI,sets,if_neg hc',if_neg hc'],_,rfl⟩
theorem AK3 (G:Nat→AV)(b:Bin)(h:Hp):PCall (En G) 138 [.agg (G9 b)] h (.sl (TI b) 1 ((sets b).map encS)):=by
 refine ACalls.pure0 rfl ?_
 refine acN Tryz.func138 rfl ?_
 show awp _ _ _ _ _ (EM _ [.tmp 2] _)
 simp -implicitDefEqProofs only[vQ,BD,↓reduceIte,jB,enP,PN,P7,bxB,DW SV,YI,jH]
 refine CU (fun hc => ?_) (fun hc => ?_)
 ·have hc':b.ranges.l.length > 0:=by simpa using hc
  simp -implicitDefEqProofs only[vQ,BD,↓reduceIte,jB,enP,P7,DW SV,YI,A7E]
  exact⟨by rw[TI,sets,if_pos hc',if_pos hc']; rfl,_,rfl⟩
 ·have hc' : ¬ b.ranges.l.length > 0:=by simpa using hc
  simp -implicitDefEqProofs only[vQ,BD,↓reduceIte,jB,enP,N9,DW X0,QU]
  exact⟨by rw[TI,sets,if_neg hc',if_neg hc'],_,rfl⟩
theorem A5Y (m:SM)(k:Nat)(xs:List (List AV)):JY Tryz.prog 53 .eql (.sl m k xs) (.sl .nil 0 [])=some (.bool (decide (m = .nil))):=by cases m <;> kernel_rfl
theorem A5X (m:SM)(k:Nat)(xs:List (List AV)):JY Tryz.prog 26 .eql (.sl m k xs) (.sl .nil 0 [])=some (.bool (decide (m = .nil))):=by cases m <;> kernel_rfl
def AJ1 (k:Nat)(xs:List (List AV))(h:Hp)(v:AV)(h':Hp):Prop :=
 (xs = []∧(∃ k0,v = .sl .nil k0 [])∧h'=h)∨(xs = []∧v = .sl .full k []∧h'=h)∨(xs≠[]∧v = .own h.length 0 xs.length∧h'=h++[.live k xs])
theorem A4U (h:Hp):FM Tryz.prog false h 53 0 []=some (.sl .full 2 [],h):=by kernel_rfl
theorem AYG (h:Hp):FM Tryz.prog false h 26 0 []=some (.sl .full 1 [],h):=by kernel_rfl
theorem cok (f:FuncId)(G:Nat→AV)(hf:(match Tryz.prog.funcs[f]? with | some fn=>fn.body.isSome && !(fn.name == "runtime.NumGoroutine") | none=>false)=true):ZG (En G).P f:=by
 have he:(En G).P=Tryz.prog:=rfl
 unfold ZG
 rw[he]
 cases hx:Tryz.prog.funcs[f]? with
 | none=>rw[hx] at hf; cases hf
 | some fn =>
   rw[hx] at hf
   simp at hf
   exact⟨fn,rfl,by simpa using hf.1,by simpa using hf.2⟩
def qencI (n:Int):List AV := [.int .i64 n]
theorem encI0 (n:Int):(qencI n)[0]? = some (.int .i64 n):=rfl
theorem AXW (G:Nat→AV)(r:Rs)(h:Hp):PCall (En G) 176 [.sl r.m 2 (r.l.map encR)] h (.bool (decide (r.l.length=0))):=by
 refine acN Tryz.func176 rfl ?_
 show awp _ _ _ _ _ (EM _ [.tmp 2] _)
 simp -implicitDefEqProofs only[vQ,BD,↓reduceIte,jB,enP,PN,jH]
 refine⟨?_,trivial⟩
 congr 1
 rw[qU]; simp
theorem AMC (G:Nat→AV)(xs:List Rs)(m:SM)(fid:FuncId)(caps:List AV)(p:Rs→Bool)(h:Hp)(hl:xs.length≤1099511627776)
  (hf : ∀ r,PCall (En G) fid (.sl r.m 2 (r.l.map encR) :: caps) h (.bool (p r))) :
  PCall (En G) 203 [.sl m 1 (xs.map encS),.fn (.func fid) [] caps] h (.int .i64 (match xs.findIdx? p with | some i=>(i:Int) | none => -1)):=by
 refine acN Tryz.func203 rfl ?_
 show awp _ _ _ _ _ (EM _ [.tmp 4] _)
 simp -implicitDefEqProofs only[vQ,BD,↓reduceIte,jB,enP,V4,jH]
 refine DL (fun n F H => ∃ k,n+k=xs.length∧F 0 = .sl m 1 (xs.map encS)∧F 1 = .fn (.func fid) [] caps∧F 7 = .int .i64 xs.length∧F 8 = .int .i64 (k:Nat)∧H=h∧(xs.take k).all (fun r => !p r)=true) xs.length ⟨0,by simp,rfl,rfl,rfl,rfl,rfl,rfl⟩ ?_
 rintro n F H ⟨k,hk,f0,f1,f7,f8,rfl,hin⟩
 simp -implicitDefEqProofs only[vQ,BD,↓reduceIte,enP,f0,f1,f7,f8,jH]
 refine CU (fun hc => ?_) (fun hc => ?_)
 ·have hc':k < xs.length:=by simpa using hc
  simp -implicitDefEqProofs only[vQ,BD,List.nil_append,List.cons_append,↓reduceIte,jB,enP,AGO,f0,f1,f7,f8,DN hc',CY SV hc',YH]
  refine(hf _).use ?_
  simp -implicitDefEqProofs only[vQ,↓reduceIte]
  refine CU (fun hb => ?_) (fun hb => ?_)
  ·simp -implicitDefEqProofs only[vQ,BD,↓reduceIte,jB]
   refine⟨?_,trivial⟩
   rw[qZ.2 ⟨hc',hb,fun j hj=>by
    rw[zI] at hin
    have:=hin xs[j] (by rw[List.mem_take_iff_getElem]; exact⟨j,by omega,rfl⟩)
    simpa using this⟩]
  ·simp -implicitDefEqProofs only[vQ,BD,↓reduceIte,jB,enP,f8,wrap_succ (show k < 9223372036854775807 by omega)]
   refine⟨n - 1,by omega,k+1,by omega,f0,f1,f7,rfl,trivial,?_⟩
   rw[zN hc',List.all_append,hin]
   simp only[wR,List.all_nil,hb]; rfl
 ·have hc' : ¬ k < xs.length:=by simpa using hc
  simp -implicitDefEqProofs only[vQ,BD,↓reduceIte]
  refine⟨?_,trivial⟩
  rw[jW (by omega)] at hin
  rw[wC.2 (by simpa using hin)]
theorem AFR (G:Nat→AV)(xs:List Rs)(m:SM)(fid:FuncId)(caps:List AV)(p:Rs→Bool)(h:Hp)(hl:xs.length≤1099511627776)
  (hf : ∀ r,PCall (En G) fid (.sl r.m 2 (r.l.map encR) :: caps) h (.bool (p r))) :
  PCall (En G) 175 [.sl m 1 (xs.map encS),.fn (.func fid) [] caps] h (.bool (xs.any p)):=by
 refine acN Tryz.func175 rfl ?_
 show awp _ _ _ _ _ (EM _ [.tmp 4] _)
 simp -implicitDefEqProofs only[vQ,BD,↓reduceIte,jB,enP]
 refine(AMC G xs m fid caps p h hl hf).use ?_
 simp -implicitDefEqProofs only[vQ,BD,↓reduceIte,enP]
 refine⟨?_,trivial⟩
 cases hx:xs.findIdx? p with
 | some i =>
   obtain⟨h1,h2,_⟩:=qZ.1 hx
   have:xs.any p=true:=qH.2 ⟨xs[i],by simp,h2⟩
   simp [this]
 | none =>
   have:xs.any p=false:=by
    rw[wC] at hx
    rw[wS]; intro x hx2; simp [hx x hx2]
   simp [this]
def TB (n:Int):Bool:=decide (n≥97) && decide (n≤122)
def AM4 (n:Int):Bool:=decide (n≥48) && decide (n≤57)
def OH (n:Int):Bool:=TB n || AM4 n || (decide (n≥65) && decide (n≤90)) || n == 95
theorem AEQ (G:Nat→AV)(n:Int)(h:Hp):PCall (En G) 172 [.int .i32 n] h (.bool (TB n)):=by
 refine acN Tryz.func172 rfl ?_
 show awp _ _ _ _ _ (EM _ [.tmp 2] _)
 simp -implicitDefEqProofs only[vQ,CP,BD,↓reduceIte,jB,enP]
 refine I4 (fun ha => ?_) (fun ha => ?_)
 ·simp -implicitDefEqProofs only[vQ,CP,BD,↓reduceIte,jB,enP,ha]
  exact⟨by unfold TB; rw[ha]; rfl,trivial⟩
 ·simp -implicitDefEqProofs only[vQ,CP,BD,EW,↓reduceIte,jB,ha]
  exact⟨by unfold TB; rw[ha]; rfl,trivial⟩
theorem APH (G:Nat→AV)(n:Int)(h:Hp):PCall (En G) 201 [.int .i32 n] h (.bool (AM4 n)):=by
 refine acN Tryz.func201 rfl ?_
 show awp _ _ _ _ _ (EM _ [.tmp 2] _)
 simp -implicitDefEqProofs only[vQ,CP,BD,↓reduceIte,jB,enP]
 refine I4 (fun ha => ?_) (fun ha => ?_)
 ·simp -implicitDefEqProofs only[vQ,CP,BD,↓reduceIte,jB,enP,ha]
  exact⟨by unfold AM4; rw[ha]; rfl,trivial⟩
 ·simp -implicitDefEqProofs only[vQ,CP,BD,EW,↓reduceIte,jB,ha]
  exact⟨by unfold AM4; rw[ha]; rfl,trivial⟩
theorem AHC (G:Nat→AV)(n:Int)(h:Hp):PCall (En G) 135 [.int .u8 n] h (.bool (TB n)):=by
 refine acN Tryz.func135 rfl ?_
 show awp _ _ _ _ _ (EM _ [.tmp 2] _)
 simp -implicitDefEqProofs only[vQ,CP,BD,↓reduceIte,jB,enP]
 refine I4 (fun ha => ?_) (fun ha => ?_)
 ·simp -implicitDefEqProofs only[vQ,CP,BD,↓reduceIte,jB,enP,ha]
  exact⟨by unfold TB; rw[ha]; rfl,trivial⟩
 ·simp -implicitDefEqProofs only[vQ,CP,BD,EW,↓reduceIte,jB,ha]
  exact⟨by unfold TB; rw[ha]; rfl,trivial⟩
theorem digit_ref (G:Nat→AV)(n:Int)(h:Hp):PCall (En G) 179 [.int .u8 n] h (.bool (AM4 n)):=by
 refine acN Tryz.func179 rfl ?_
 show awp _ _ _ _ _ (EM _ [.tmp 2] _)
 simp -implicitDefEqProofs only[vQ,CP,BD,↓reduceIte,jB,enP]
 refine I4 (fun ha => ?_) (fun ha => ?_)
 ·simp -implicitDefEqProofs only[vQ,CP,BD,↓reduceIte,jB,enP,ha]
  exact⟨by unfold AM4; rw[ha]; rfl,trivial⟩
 ·simp -implicitDefEqProofs only[vQ,CP,BD,EW,↓reduceIte,jB,ha]
  exact⟨by unfold AM4; rw[ha]; rfl,trivial⟩
theorem AAH (G:Nat→AV)(n:Int)(h:Hp):PCall (En G) 173 [.int .i32 n] h (.bool (OH n)):=by
 refine acN Tryz.func173 rfl ?_
 show awp _ _ _ _ _ (EM _ [.tmp 2] _)
 simp -implicitDefEqProofs only[vQ,BD,↓reduceIte,jB,enP]
 refine(AEQ G n h).use ?_
 simp -implicitDefEqProofs only[vQ,CP,BD,↓reduceIte]
 refine I4 (fun ha => ?_) (fun ha => ?_)
 ·simp -implicitDefEqProofs only[vQ,CP,BD,EW,↓reduceIte,jB,ha]
  exact⟨by unfold OH; rw[ha]; rfl,trivial⟩
 simp -implicitDefEqProofs only[vQ,CP,BD,↓reduceIte,jB,ha]
 refine(APH G n h).use ?_
 simp -implicitDefEqProofs only[vQ,CP,BD,↓reduceIte,jB]
 refine I4 (fun hb => ?_) (fun hb => ?_)
 ·simp -implicitDefEqProofs only[vQ,CP,BD,EW,↓reduceIte,jB,hb]
  exact⟨by unfold OH; rw[ha,hb]; rfl,trivial⟩
 simp -implicitDefEqProofs only[vQ,CP,BD,↓reduceIte,jB,enP,hb]
 refine I4 (fun hc => ?_) (fun hc => ?_)
 ·simp -implicitDefEqProofs only[vQ,CP,BD,↓reduceIte,jB,enP,hc]
  refine I4 (fun hd => ?_) (fun hd => ?_)
  ·simp -implicitDefEqProofs only[vQ,CP,BD,EW,↓reduceIte,jB,hd]
   exact⟨by unfold OH; rw[ha,hb,hc,hd]; rfl,trivial⟩
  ·simp -implicitDefEqProofs only[vQ,CP,BD,↓reduceIte,jB,enP,hd]
   exact⟨by unfold OH; rw[ha,hb,hc,hd]; rfl,trivial⟩
 ·simp -implicitDefEqProofs only[vQ,CP,BD,EW,↓reduceIte,jB,enP,hc]
  exact⟨by unfold OH; rw[ha,hb,hc]; rfl,trivial⟩
theorem ATX (G:Nat→AV)(n:Int)(h:Hp):PCall (En G) 137 [.int .u8 n] h (.bool (OH n)):=by
 refine acN Tryz.func137 rfl ?_
 show awp _ _ _ _ _ (EM _ [.tmp 2] _)
 simp -implicitDefEqProofs only[vQ,BD,↓reduceIte,jB,enP]
 refine(AHC G n h).use ?_
 simp -implicitDefEqProofs only[vQ,CP,BD,↓reduceIte]
 refine I4 (fun ha => ?_) (fun ha => ?_)
 ·simp -implicitDefEqProofs only[vQ,CP,BD,EW,↓reduceIte,jB,ha]
  exact⟨by unfold OH; rw[ha]; rfl,trivial⟩
 simp -implicitDefEqProofs only[vQ,CP,BD,↓reduceIte,jB,ha]
 refine(digit_ref G n h).use ?_
 simp -implicitDefEqProofs only[vQ,CP,BD,↓reduceIte,jB]
 refine I4 (fun hb => ?_) (fun hb => ?_)
 ·simp -implicitDefEqProofs only[vQ,CP,BD,EW,↓reduceIte,jB,hb]
  exact⟨by unfold OH; rw[ha,hb]; rfl,trivial⟩
 simp -implicitDefEqProofs only[vQ,CP,BD,↓reduceIte,jB,enP,hb]
 refine I4 (fun hc => ?_) (fun hc => ?_)
 ·simp -implicitDefEqProofs only[vQ,CP,BD,↓reduceIte,jB,enP,hc]
  refine I4 (fun hd => ?_) (fun hd => ?_)
  ·simp -implicitDefEqProofs only[vQ,CP,BD,EW,↓reduceIte,jB,hd]
   exact⟨by unfold OH; rw[ha,hb,hc,hd]; rfl,trivial⟩
  ·simp -implicitDefEqProofs only[vQ,CP,BD,↓reduceIte,jB,enP,hd]
   exact⟨by unfold OH; rw[ha,hb,hc,hd]; rfl,trivial⟩
 ·simp -implicitDefEqProofs only[vQ,CP,BD,EW,↓reduceIte,jB,enP,hc]
  exact⟨by unfold OH; rw[ha,hb,hc]; rfl,trivial⟩
def encStr (s:ByteArray):List AV := [.str s]
theorem encStr0 (s:ByteArray):(encStr s)[0]? = some (.str s):=rfl
def JG (xs:List ByteArray)(v:ByteArray):Bool:=xs.any fun u=>v.toList == u.toList
theorem has_ref (G:Nat→AV)(xs:List ByteArray)(m:SM)(v:ByteArray)(h:Hp)(hl:xs.length≤1099511627776) :
  PCall (En G) 177 [.sl m 1 (xs.map encStr),.str v] h (.bool (JG xs v)):=by
 refine acN Tryz.func177 rfl ?_
 show awp _ _ _ _ _ (EM _ [.tmp 4] _)
 simp -implicitDefEqProofs only[vQ,BD,enP]
 refine DL (fun n F H => ∃ k,n+k=xs.length∧F 0 = .sl m 1 (xs.map encStr)∧F 1 = .str v∧F 5 = .int .i64 (k:Nat)∧H=h∧JG xs v=JG (xs.drop k) v) xs.length ⟨0,by simp,rfl,rfl,rfl,rfl,rfl⟩ ?_
 rintro n F H ⟨k,hk,f0,f1,f5,rfl,hin⟩
 simp -implicitDefEqProofs only[vQ,BD,↓reduceIte,jB,enP,AL5,f0,f1,f5,jH]
 refine CU (fun hc => ?_) (fun hc => ?_)
 ·have hc':k < xs.length:=by simpa using hc
  have hs:JG (xs.drop k) v=((v.toList == xs[k].toList) || JG (xs.drop (k+1)) v):=KT _ xs k hc'
  simp -implicitDefEqProofs only[vQ,BD,LV,↓reduceIte,jB,enP,ATS,f0,f1,f5,DN hc',CY ag9 hc',encStr0]
  refine CU (fun hb => ?_) (fun hb => ?_)
  ·simp -implicitDefEqProofs only[vQ,BD,↓reduceIte]
   refine⟨?_,trivial⟩
   rw[hin,hs,show(v.toList == xs[k].toList)=true by rw[BEq.comm]; exact hb]; rfl
  ·simp -implicitDefEqProofs only[vQ,BD,↓reduceIte,jB,enP,f5,wrap_succ (show k < 9223372036854775807 by omega)]
   refine⟨n - 1,by omega,k+1,by omega,f0,f1,rfl,trivial,?_⟩
   rw[hin,hs,show(v.toList == xs[k].toList)=false by rw[BEq.comm]; exact hb]; rfl
 ·have hc' : ¬ k < xs.length:=by simpa using hc
  simp -implicitDefEqProofs only[vQ,BD,↓reduceIte]
  exact⟨by rw[hin,jV (by omega)]; rfl,trivial⟩
theorem AO4 (G:Nat→AV)(xs:List ByteArray)(m:SM)(v:ByteArray)(h:Hp)(hl:xs.length≤1099511627776) :
  ∃ i:Int,(decide (i≥0)=JG xs v)∧PCall (En G) 202 [.sl m 1 (xs.map encStr),.str v] h (.int .i64 i):=by
 refine⟨(match xs.findIdx? (fun u=>v.toList == u.toList) with | some i=>(i:Int) | none => -1),?_,?_⟩
 ·cases hx:xs.findIdx? (fun u=>v.toList == u.toList) with
  | some i =>
    obtain⟨h1,h2,_⟩:=qZ.1 hx
    have:JG xs v=true:=qH.2 ⟨xs[i],by simp,h2⟩
    simp [this]
  | none =>
    have:JG xs v=false:=by
     rw[wC] at hx
     unfold JG
     rw[wS]; intro x hx2; simp only[hx x hx2]; simp
    simp [this]
 refine acN Tryz.func202 rfl ?_
 show awp _ _ _ _ _ (EM _ [.tmp 4] _)
 simp -implicitDefEqProofs only[vQ,BD,↓reduceIte,jB,enP,AL5,jH]
 refine DL (fun n F H => ∃ k,n+k=xs.length∧F 0 = .sl m 1 (xs.map encStr)∧F 1 = .str v∧F 7 = .int .i64 xs.length∧F 8 = .int .i64 (k:Nat)∧H=h∧(xs.take k).all (fun u => !(v.toList == u.toList))=true) xs.length ⟨0,by simp,rfl,rfl,rfl,rfl,rfl,rfl⟩ ?_
 rintro n F H ⟨k,hk,f0,f1,f7,f8,rfl,hin⟩
 simp -implicitDefEqProofs only[vQ,BD,↓reduceIte,enP,f0,f1,f7,f8,jH]
 refine CU (fun hc => ?_) (fun hc => ?_)
 ·have hc':k < xs.length:=by simpa using hc
  simp -implicitDefEqProofs only[vQ,BD,LV,↓reduceIte,jB,enP,ATS,f0,f1,f7,f8,DN hc',CY ag9 hc',encStr0]
  refine CU (fun hb => ?_) (fun hb => ?_)
  ·simp -implicitDefEqProofs only[vQ,BD,↓reduceIte,jB]
   refine⟨?_,trivial⟩
   rw[qZ.2 ⟨hc',hb,fun j hj=>by
    rw[zI] at hin
    have:=hin xs[j] (by rw[List.mem_take_iff_getElem]; exact⟨j,by omega,rfl⟩)
    simpa using this⟩]
  ·simp -implicitDefEqProofs only[vQ,BD,↓reduceIte,jB,enP,f8,wrap_succ (show k < 9223372036854775807 by omega)]
   refine⟨n - 1,by omega,k+1,by omega,f0,f1,f7,rfl,trivial,?_⟩
   rw[zN hc',List.all_append,hin]
   simp only[wR,List.all_nil,hb]; rfl
 ·have hc' : ¬ k < xs.length:=by simpa using hc
  simp -implicitDefEqProofs only[vQ,BD,↓reduceIte]
  refine⟨?_,trivial⟩
  rw[jW (by omega)] at hin
  rw[wC.2 (by
   intro x hx
   rw[zI] at hin
   simpa using hin x hx)]
theorem AGZ (G:Nat→AV)(xs:List ByteArray)(m:SM)(v:ByteArray)(h:Hp)(hl:xs.length≤1099511627776) :
  PCall (En G) 174 [.sl m 1 (xs.map encStr),.str v] h (.bool (JG xs v)):=by
 obtain⟨i,hi,hp⟩:=AO4 G xs m v h hl
 refine acN Tryz.func174 rfl ?_
 show awp _ _ _ _ _ (EM _ [.tmp 4] _)
 simp -implicitDefEqProofs only[vQ,BD,↓reduceIte,jB,enP]
 refine hp.use ?_
 simp -implicitDefEqProofs only[vQ,BD,↓reduceIte,enP]
 exact⟨by rw[hi],trivial⟩
def kw:List ByteArray := [⟨#[99,108,97,115,115]⟩,⟨#[101,120,116,101,110,100,115]⟩,⟨#[114,97,110,100]⟩,⟨#[114,97,110,100,99]⟩,⟨#[115,116,97,116,101]⟩,⟨#[99,111,110,115,116,114,97,105,110,116]⟩,⟨#[115,111,102,116]⟩,⟨#[100,105,115,116]⟩,⟨#[105,102]⟩,⟨#[101,108,115,101]⟩,⟨#[101,97,99,104]⟩,⟨#[105,110]⟩,⟨#[115,111,108,118,101]⟩,⟨#[98,101,102,111,114,101]⟩,⟨#[105,110,115,105,100,101]⟩,⟨#[112,114,111,112,101,114,116,121]⟩,⟨#[115,101,113]⟩,⟨#[97,110,100]⟩,⟨#[111,114]⟩,⟨#[110,111,116]⟩,⟨#[115,101,116]⟩,⟨#[104,111,108,100]⟩,⟨#[112,108,97,105,110]⟩,⟨#[114,101,112,101,97,116]⟩]
theorem AWY:kw.length=24:=rfl
theorem AJB (G:Nat→AV)(h:Hp):PCall (En G) 178 [] h (.sl .full 1 (kw.map encStr)):=by
 refine acN Tryz.func178 rfl ?_
 show awp _ _ _ _ _ (EM _ [.tmp 0] _)
 simp -implicitDefEqProofs only[vQ,BD,enP]
 refine KQ (v := .sl .full 1 (kw.map encStr)) (h:=h) (by kernel_rfl) ?_
 simp -implicitDefEqProofs only[vQ,BD,↓reduceIte]
 exact⟨trivial,trivial⟩
theorem AGP (G:Nat→AV)(v:ByteArray)(h:Hp):PCall (En G) 136 [.str v] h (.bool (JG kw v)):=by
 refine acN Tryz.func136 rfl ?_
 show awp _ _ _ _ _ (EM _ [.tmp 2] _)
 simp -implicitDefEqProofs only[vQ,BD,enP]
 refine(AJB G h).use ?_
 simp -implicitDefEqProofs only[vQ,BD,↓reduceIte,jB]
 refine(has_ref G kw .full v h (by rw[AWY]; omega)).use ?_
 simp -implicitDefEqProofs only[vQ,BD,↓reduceIte]
 exact⟨trivial,trivial⟩
def KwG (G:Nat→AV):Prop := ∃ m,G 0 = .fptr 1 [[.sl m 1 (kw.map encStr)]] 0 0
theorem AEU (G:Nat→AV)(hG:KwG G)(v:ByteArray)(h:Hp):PCall (En G) 130 [.str v] h (.bool (JG kw v)):=by
 obtain⟨m,hg⟩:=hG
 refine acN Tryz.func130 rfl ?_
 show awp _ _ _ _ _ (EM _ [.tmp 2] _)
 have e:D8 Tryz.prog h 65 (G 0)=some (.sl m 1 (kw.map encStr)):=by rw[hg]; exact Z8 AUY rfl rfl
 have hl:kw.length≤1099511627776:=by rw[AWY]; omega
 simp -implicitDefEqProofs only[vQ,BD,A06,↓reduceIte,jB,enP,enG,e]
 refine(AGZ G kw m v h hl).use ?_
 simp -implicitDefEqProofs only[vQ,BD,↓reduceIte]
 exact⟨trivial,trivial⟩
def UG (s:ByteArray):Bool:=(match s.data.toList with | []=>false | b :: _=>TB b.toNat) && s.data.toList.all fun b=>OH b.toNat
def IM (s:ByteArray):Bool:=UG s && decide (s.size≤16) && !JG kw s
theorem ABQ {n:Int}(h:OH n=true):n < 128:=by
 simp only[OH,TB,AM4,Bool.or_eq_true,jX,decide_eq_true_eq,beq_iff_eq] at h
 omega
theorem AZZ (h:Hp)(s:ByteArray):AB6 Tryz.prog h 9 (.str s)=some (.ptr h.length 0 0,h++[.iter s 0]):=by
 have:Tryz.prog.underlying 9=some .string:=by kernel_rfl
 simp [AB6,this]
theorem A0J {h:Hp}{s:ByteArray}{pos:Nat}(hp:pos < s.size):ACV (h++[.iter s pos]) (.ptr h.length 0 0) true=some (.tup [.bool true,.int .i64 pos,.int .i32 (Utf8.decode s pos).1],h++[.iter s (pos+(Utf8.decode s pos).2)]):=by
 simp [ACV,hp]
theorem AWL {h:Hp}{s:ByteArray}{pos:Nat}(hp : ¬ pos < s.size):ACV (h++[.iter s pos]) (.ptr h.length 0 0) true=some (.tup [.bool false],h++[.iter s pos]):=by
 simp [ACV,hp]
theorem VC {s:ByteArray}{k:Nat}(hk:k < s.size)(hb:OH (s[k]'hk).toNat=false):UG s=false:=by
 unfold UG
 have:(s.data.toList.all fun b=>OH b.toNat)=false:=by
  rw[List.all_eq_false]
  exact⟨s[k],Array.getElem_mem_toList (xs:=s.data) hk,by simp [hb]⟩
 rw[this]; simp
theorem AB9 {s:ByteArray}(hk:0 < s.size)(hb:TB (s[0]'hk).toNat=false):UG s=false:=by
 unfold UG
 have:(match s.data.toList with | []=>false | b :: _=>TB b.toNat)=false:=by
  cases hl:s.data.toList with
  | nil=>rfl
  | cons b l =>
    have h0:s[0]'hk=b:=by
     have:s.data.toList[0]? = some b:=by rw[hl]; rfl
     have h2:s.data[0]? = some b:=by rw[← Array.getElem?_toList]; exact this
     have hk':0 < s.data.size:=hk
     rw[Array.getElem?_eq_getElem hk'] at h2
     exact Option.some.inj h2
    simp only
    rw[← h0]; exact hb
 rw[this]; simp
theorem AKI {s:ByteArray}(hk:0 < s.size)(hb:TB (s[0]'hk).toNat=true)(ha : ∀ i (hi:i < s.size),OH (s[i]'hi).toNat=true):UG s=true:=by
 unfold UG
 have h1:(match s.data.toList with | []=>false | b :: _=>TB b.toNat)=true:=by
  cases hl:s.data.toList with
  | nil =>
    have:s.data.toList.length=0:=by rw[hl]; rfl
    have h2:s.data.size=0:=by simpa using this
    have h3:s.size=s.data.size:=rfl
    omega
  | cons b l =>
    have h0:s[0]'hk=b:=by
     have:s.data.toList[0]? = some b:=by rw[hl]; rfl
     have h2:s.data[0]? = some b:=by rw[← Array.getElem?_toList]; exact this
     have hk':0 < s.data.size:=hk
     rw[Array.getElem?_eq_getElem hk'] at h2
     exact Option.some.inj h2
    simp only
    rw[← h0]; exact hb
 rw[h1,Bool.true_and,zI]
 intro b hbm
 obtain⟨i,hi,rfl⟩:=List.getElem_of_mem hbm
 have hi':i < s.size:=by simpa using hi
 exact ha i hi'
theorem ASO (G:Nat→AV)(s:ByteArray)(h:Hp)(hl:s.size≤1099511627776):PCall (En G) 129 [.str s] h (.bool (UG s)):=by
 refine ACalls.pure0 rfl ?_
 refine acN Tryz.func129 rfl ?_
 show awp _ _ _ _ _ (EM _ [.tmp 2] _)
 simp -implicitDefEqProofs only[vQ,BD,AZG,↓reduceIte,jB,enP,AZZ]
 refine DL (fun n F H => ∃ k,n+k=s.size∧F 0 = .str s∧F 6 = .ptr h.length 0 0∧H=h++[.iter s k]∧(∀ i (hi:i < s.size),i < k→OH (s[i]'hi).toNat=true)∧(∀ hp:0 < s.size,0 < k→TB (s[0]'hp).toNat=true)) s.size ⟨0,by simp,rfl,by simp -implicitDefEqProofs only[AA,↓reduceIte],rfl,fun _ _ h=>absurd h (by omega),fun _ h=>absurd h (by omega)⟩ ?_
 rintro n F H ⟨k,hk,f0,f6,rfl,hall,h0⟩
 rcases Classical.em (k < s.size) with hp | hp
 ·have go : ∀ (r:Nat × Nat),Utf8.decode s k=r→(OH r.1=true→r=((s[k]'hp).toNat,1)∧OH (s[k]'hp).toNat=true)∧(OH r.1=false→UG s=false)∧(TB r.1=false→k=0→UG s=false)∧(TB r.1=true→OH r.1=true):=by
   rintro r rfl
   have lf : ∀ n,TB n=true→OH n=true:=fun n hn=>by unfold OH; rw[hn]; rfl
   rcases zM (s[k]'hp).toNat 128 with ha | ha
   ·have hd:=decode_ascii s k hp ha
    rw[hd]
    exact⟨fun hf=>⟨rfl,hf⟩,fun hf=>VC hp hf,fun hf h0=>by subst h0; exact AB9 hp hf,lf _⟩
   ·have hd:=(decode_high s k hp ha).1
    refine⟨fun hf => ?_,fun _ => ?_,fun _ h0 => ?_,lf _⟩
    ·have:=ABQ hf; omega
    ·refine VC hp ?_
     cases hf:OH (s[k]'hp).toNat with
     | false=>rfl
     | true=>have:=ABQ hf; omega
    ·refine VC hp ?_
     cases hf:OH (s[k]'hp).toNat with
     | false=>rfl
     | true=>have:=ABQ hf; omega
  simp -implicitDefEqProofs only[vQ,zB,List.getElem?_cons_succ,CP,BD,AVC,↓reduceIte,jB,enP,f0,f6,A0J hp]
  generalize hr:Utf8.decode s k=r at go
  obtain⟨g1,g2,g3,g4⟩:=go r rfl
  have done : ∀ H',OH r.1=true→(k=0→TB r.1=true)→H'=h++[ABlk.iter s (k+r.2)]→∃ m,m < n∧∃ k',m+k'=s.size∧H'=h++[.iter s k']∧(∀ i (hi:i < s.size),i < k'→OH (s[i]'hi).toNat=true)∧(∀ hp:0 < s.size,0 < k'→TB (s[0]'hp).toNat=true):=by
   intro H' hf hlw hH
   obtain⟨e1,e2⟩:=g1 hf
   refine⟨n - 1,by omega,k+1,by omega,by rw[hH,e1],fun i hi hik => ?_,fun hp0 _ => ?_⟩
   ·rcases zM i k with h' | h'
    ·exact hall i hi h'
    ·have:i=k:=by omega
     subst this; exact e2
   ·rcases wI k with h' | h'
    ·subst h'; have:=hlw rfl; rw[e1] at this; exact this
    ·exact h0 hp0 h'
  refine I4 (fun ha => ?_) (fun ha => ?_)
  ·have hk0:k=0:=by simp at ha; omega
   simp -implicitDefEqProofs only[vQ,CP,BD,↓reduceIte,jB,ha]
   refine(AEQ G _ _).use ?_
   simp -implicitDefEqProofs only[vQ,CP,BD,↓reduceIte,jB]
   refine I4 (fun hb => ?_) (fun hb => ?_)
   ·simp -implicitDefEqProofs only[vQ,CP,BD,EW,↓reduceIte,jB,hb]
    have hlw:TB r.1=false:=by simpa using hb
    exact⟨by rw[g3 hlw hk0],_,rfl⟩
   have hlw:TB r.1=true:=by simpa using hb
   simp -implicitDefEqProofs only[vQ,CP,BD,↓reduceIte,jB,hb]
   refine(AAH G _ _).use ?_
   simp -implicitDefEqProofs only[vQ,CP,BD,↓reduceIte,jB]
   have hf:=g4 hlw
   simp -implicitDefEqProofs only[vQ,↓reduceIte,jB,Bool.not_true,hf]
   obtain⟨m,h1,k',h2,h3,h4,h5⟩:=done _ hf (fun _=>hlw) rfl
   exact⟨m,h1,k',h2,f0,f6,h3,h4,h5⟩
  ·have hk0:k≠0:=by intro e; subst e; simp at ha
   simp -implicitDefEqProofs only[vQ,CP,BD,EW,↓reduceIte,jB,ha]
   refine(AAH G _ _).use ?_
   simp -implicitDefEqProofs only[vQ,CP,BD,↓reduceIte,jB]
   refine CU (fun hb => ?_) (fun hb => ?_)
   ·have hf:OH r.1=false:=by simpa using hb
    simp -implicitDefEqProofs only[vQ,BD,↓reduceIte]
    exact⟨by rw[g2 hf],_,rfl⟩
   ·have hf:OH r.1=true:=by simpa using hb
    simp -implicitDefEqProofs only[vQ,↓reduceIte,jB]
    obtain⟨m,h1,k',h2,h3,h4,h5⟩:=done _ hf (fun e=>absurd e hk0) rfl
    exact⟨m,h1,k',h2,f0,f6,h3,h4,h5⟩
 ·simp -implicitDefEqProofs only[vQ,zB,BD,AVC,AF0,↓reduceIte,jB,enP,f0,f6,AWL hp]
  have hks:k=s.size:=by omega
  refine⟨?_,_,rfl⟩
  congr 1
  rcases wI s.size with hz | hz
  ·have:s=⟨#[]⟩:=by
    obtain⟨d⟩:=s
    have:d.size=0:=hz
    rw[Array.eq_empty_of_size_eq_zero this]
   subst this
   rw[ByteArray.toList_eq]
   rfl
  ·rw[AKI hz (h0 hz (by omega)) (fun i hi=>hall i hi (by omega))]
   have hne:s.toList≠[]:=by
    rw[ByteArray.toList_eq]
    intro e
    have:s.data.toList.length=0:=by rw[e]; rfl
    have h2:s.data.size=0:=by simpa using this
    have h3:s.size=s.data.size:=rfl
    omega
   cases hl2:s.toList with
   | nil=>exact absurd hl2 hne
   | cons=>rw[ByteArray.toList_eq]; rfl
theorem O1 (G:Nat→AV)(hG:KwG G)(s:ByteArray)(h:Hp)(hl:s.size≤1099511627776):PCall (En G) 82 [.str s] h (.bool (IM s)):=by
 refine acN Tryz.func82 rfl ?_
 show awp _ _ _ _ _ (EM _ [.tmp 2] _)
 simp -implicitDefEqProofs only[vQ,BD,↓reduceIte,jB,enP]
 refine(ASO G s h hl).use ?_
 simp -implicitDefEqProofs only[vQ,CP,BD,↓reduceIte]
 refine I4 (fun ha => ?_) (fun ha => ?_)
 ·simp -implicitDefEqProofs only[vQ,CP,BD,↓reduceIte,jB,enP,ln9,ha]
  refine I4 (fun hb => ?_) (fun hb => ?_)
  ·simp -implicitDefEqProofs only[vQ,CP,BD,↓reduceIte,jB,hb]
   refine(AEU G hG s h).use ?_
   simp -implicitDefEqProofs only[vQ,CP,BD,↓reduceIte,jB]
   refine⟨?_,trivial⟩
   have:decide (s.size≤16)=true:=by simp at hb ⊢; omega
   unfold IM; rw[ha,this]; rfl
  ·simp -implicitDefEqProofs only[vQ,CP,BD,EW,↓reduceIte,jB,hb]
   refine⟨?_,trivial⟩
   have:decide (s.size≤16)=false:=by simp at hb ⊢; omega
   unfold IM; rw[ha,this]; rfl
 ·simp -implicitDefEqProofs only[vQ,CP,BD,EW,↓reduceIte,jB,ha]
  exact⟨by unfold IM; rw[ha]; rfl,trivial⟩
theorem ix9 (s:ByteArray)(k:Nat)(kk:IntKind)(hk:k < s.size):OT Tryz.prog 9 (.str s) (.int kk (k:Int))=some (.int .u8 (s[k]'hk).toNat):=by
 have hu:Tryz.prog.underlying 9=some .string:=by kernel_rfl
 have h0:(0:Int)≤(k:Int):=by omega
 have:s[k]? = some (s[k]'hk):=by simp [hk]
 simp [OT,hu,h0,this]
theorem P6 (G:Nat→AV)(s:ByteArray)(h:Hp):PCall (En G) 93 [.str s] h (.bool (IM s)):=by
 refine acN Tryz.func93 rfl ?_
 show awp _ _ _ _ _ (EM _ [.tmp 2] _)
 simp -implicitDefEqProofs only[vQ,CP,BD,LV,↓reduceIte,jB,enP]
 refine I4 (fun ha => ?_) (fun ha => ?_)
 ·simp -implicitDefEqProofs only[vQ,CP,BD,EW,↓reduceIte,jB,ha]
  refine⟨?_,trivial⟩
  have:s.data.toList = []:=by
   rw[ByteArray.toList_eq,ByteArray.toList_eq] at ha
   have:=beq_iff_eq.1 ha
   exact this
  unfold IM UG; rw[this]; rfl
 have hz:0 < s.size:=by
  rcases wI s.size with hz | hz
  ·have:s=⟨#[]⟩:=by
    obtain⟨d⟩:=s
    have:d.size=0:=hz
    rw[Array.eq_empty_of_size_eq_zero this]
   rw[this] at ha
   simp at ha
  ·exact hz
 simp -implicitDefEqProofs only[vQ,CP,BD,↓reduceIte,jB,enP,ln9,ha]
 refine I4 (fun hb => ?_) (fun hb => ?_)
 ·simp -implicitDefEqProofs only[vQ,CP,BD,EW,↓reduceIte,jB,hb]
  refine⟨?_,trivial⟩
  have:decide (s.size≤16)=false:=by simp at hb ⊢; omega
  unfold IM; rw[this]; simp
 have h16:decide (s.size≤16)=true:=by simp at hb ⊢; omega
 simp -implicitDefEqProofs only[vQ,CP,BD,O8,↓reduceIte,jB,enP,hb]
 refine KQ (v := .int .u8 (s[0]'hz).toNat) (h:=h) (by rw[show(0:Int)=((0:Nat):Int) from rfl,ix9 s 0 .i64 hz]; rfl) ?_
 simp -implicitDefEqProofs only[vQ,CP,BD,↓reduceIte,jB]
 refine(AHC G _ h).use ?_
 simp -implicitDefEqProofs only[vQ,CP,BD,↓reduceIte,jB]
 refine I4 (fun hc => ?_) (fun hc => ?_)
 ·simp -implicitDefEqProofs only[vQ,CP,BD,EW,↓reduceIte,jB,hc]
  refine⟨?_,trivial⟩
  unfold IM; rw[AB9 hz (by simpa using hc)]; rfl
 simp -implicitDefEqProofs only[vQ,CP,BD,↓reduceIte,jB,hc]
 refine(AGP G s h).use ?_
 simp -implicitDefEqProofs only[vQ,BD,↓reduceIte,jB]
 refine CU (fun hd => ?_) (fun hd => ?_)
 ·simp -implicitDefEqProofs only[vQ,BD,↓reduceIte]
  refine⟨?_,trivial⟩
  unfold IM; rw[hd]; simp
 simp -implicitDefEqProofs only[vQ,BD]
 have hlow:TB (s[0]'hz).toNat=true:=by simpa using hc
 refine DL (fun n F H => ∃ k,n+k=s.size∧F 0 = .str s∧F 3 = .int .i64 (k:Nat)∧H=h∧(∀ i (hi:i < s.size),i < k→OH (s[i]'hi).toNat=true)) s.size ⟨0,by simp,by simp -implicitDefEqProofs only[vQ,↓reduceIte,jB],by simp -implicitDefEqProofs only[AA,↓reduceIte]; rfl,rfl,fun _ _ h=>absurd h (by omega)⟩ ?_
 rintro n F H ⟨k,hk,f0,f3,rfl,hall⟩
 simp -implicitDefEqProofs only[vQ,BD,↓reduceIte,jB,enP,ln9,f0,f3]
 refine CU (fun he => ?_) (fun he => ?_)
 ·have hk':k < s.size:=by simpa using he
  simp -implicitDefEqProofs only[vQ,BD,O8,↓reduceIte,jB,enP,f0,f3,ix9 s k .i64 hk']
  refine(ATX G _ _).use ?_
  simp -implicitDefEqProofs only[vQ,BD,↓reduceIte]
  refine CU (fun hf => ?_) (fun hf => ?_)
  ·simp -implicitDefEqProofs only[vQ,BD,↓reduceIte]
   refine⟨?_,trivial⟩
   unfold IM; rw[VC hk' (by simpa using hf)]; rfl
  ·simp -implicitDefEqProofs only[vQ,BD,↓reduceIte,jB,enP,f3,wrap_succ (show k < 9223372036854775807 by simp at h16; omega)]
   refine⟨n - 1,by omega,k+1,by omega,f0,rfl,trivial,fun i hi hik => ?_⟩
   rcases zM i k with h' | h'
   ·exact hall i hi h'
   ·have:i=k:=by omega
    subst this; simpa using hf
 ·have hk' : ¬ k < s.size:=by simpa using he
  simp -implicitDefEqProofs only[vQ,BD,↓reduceIte]
  refine⟨?_,trivial⟩
  unfold IM
  rw[AKI hz hlow (fun i hi=>hall i hi (by omega)),h16,hd]; rfl
def J6 (b:Bin):Bool :=
 decide (b.kind < 0) || decide (b.kind > 2) || (decide ((b.ranges.l.length:Int) > 0) == decide ((b.steps.length:Int) > 0)) || (b.kind != 0 && decide ((b.steps.length:Int) > 0)) || ((b.steps.length:Int) == 1) || decide ((b.steps.length:Int) > 8)
def IA (b:Bin):Int :=
 if IM b.name then if J6 b then 1 else if b.steps.any (fun l=>decide (l.l.length=0)) then 1 else
  if(sets b).any (fun l=>decide (l.l.length > 64)) then 2 else if(sets b).any (fun l=>l.l.any bad) then 1 else 0
 else 7
def shape (b:Bin):Bool :=
 if(b.kind != 0 && b.kind != 1 && b.kind != 2) then false else if((b.steps.length:Int) == 0) then decide ((b.ranges.l.length:Int) > 0) else
  if(decide ((b.ranges.l.length:Int) > 0) || b.kind != 0 || decide ((b.steps.length:Int) < 2) || decide ((b.steps.length:Int) > 8)) then false else !(b.steps.any (fun l=>decide (l.l.length=0)))
theorem AOB : ∀ (n p z o t r s0 s1 s8 E:Bool),((n || p || z || o || t) && !(n && p) && !(n && z) && !(n && o) && !(n && t) && !(p && z) && !(p && o) && !(p && t) && !(z && o) && !(z && t) && !(o && t) && !(s0 && s1) && !(s0 && s8) && !(s1 && s8) && !(s0 && E))=true →
 (if(!z && !o && !t) then false else if s0 then r else if(r || !z || (s0 || s1) || s8) then false else !E)=(!(n || p || (r == !s0) || (!z && !s0) || s1 || s8) && !E):=by decide +kernel
theorem ASX (k r s:Int)(E:Bool)(hs:0≤s)(hE:s=0→E=false) :
  (if(k != 0 && k != 1 && k != 2) then false else if(s == 0) then decide (r > 0) else if(decide (r > 0) || k != 0 || decide (s < 2) || decide (s > 8)) then false else !E) =
  (!(decide (k < 0) || decide (k > 2) || (decide (r > 0) == decide (s > 0)) || (k != 0 && decide (s > 0)) || (s == 1) || decide (s > 8)) && !E):=by
 have h1:decide (s > 0) = !(s == 0):=by rw[qU]; simp; omega
 have h2:decide (s < 2)=((s == 0) || (s == 1)):=by rw[qU]; simp; omega
 rw[h1,h2]
 have key:=AOB (decide (k < 0)) (decide (k > 2)) (k == 0) (k == 1) (k == 2) (decide (r > 0)) (s == 0) (s == 1) (decide (s > 8)) E ?_
 ·exact key
 ·have a1:(decide (k < 0) || decide (k > 2) || (k == 0) || (k == 1) || (k == 2))=true:=by simp; omega
  have no : ∀ (p q:Prop) [Decidable p] [Decidable q],¬ (p∧q)→(!(decide p && decide q))=true:=by
   intro p q _ _ h; by_cases hp:p <;> by_cases hq:q <;> simp_all
  have e0:(s == 0 && E)=false:=by
   by_cases hz:s=0
   ·rw[hE hz]; simp
   ·simp [hz]
  have b0:(k == 0)=decide (k=0):=rfl
  have b1:(k == 1)=decide (k=1):=rfl
  have b2:(k == 2)=decide (k=2):=rfl
  have c0:(s == 0)=decide (s=0):=rfl
  have c1:(s == 1)=decide (s=1):=rfl
  rw[e0]
  rw[b0,b1,b2] at a1 ⊢
  rw[c0,c1,a1,no _ _ (show ¬ (k < 0∧k > 2) by omega),no _ _ (show ¬ (k < 0∧k=0) by omega),no _ _ (show ¬ (k < 0∧k=1) by omega),no _ _ (show ¬ (k < 0∧k=2) by omega),
   no _ _ (show ¬ (k > 2∧k=0) by omega),no _ _ (show ¬ (k > 2∧k=1) by omega),no _ _ (show ¬ (k > 2∧k=2) by omega),no _ _ (show ¬ (k=0∧k=1) by omega),no _ _ (show ¬ (k=0∧k=2) by omega),no _ _ (show ¬ (k=1∧k=2) by omega),
   no _ _ (show ¬ (s=0∧s=1) by omega),no _ _ (show ¬ (s=0∧s > 8) by omega),no _ _ (show ¬ (s=1∧s > 8) by omega)]
  rfl
theorem AK2 (b:Bin):shape b=(!J6 b && !(b.steps.any (fun l=>decide (l.l.length=0)))) :=
 ASX b.kind b.ranges.l.length b.steps.length _ (by omega) (fun h=>by
  have:b.steps = []:=List.eq_nil_of_length_eq_zero (by omega)
  rw[this]; rfl)
theorem AOA (G:Nat→AV)(b:Bin)(h:Hp)(hl:b.steps.length≤1099511627776):PCall (En G) 131 [.agg (G9 b)] h (.bool (shape b)):=by
 refine ACalls.pure0 rfl ?_
 refine acN Tryz.func131 rfl ?_
 show awp _ _ _ _ _ (EM _ [.tmp 2] _)
 simp -implicitDefEqProofs only[vQ,CP,BD,↓reduceIte,jB,enP,V4,ND,N9,bxB,DW X0,DW SV,DW ag3,QV,YI,QU,jH]
 refine S9 (fun F H=>F 7 = .bool (b.kind != 0 && b.kind != 1 && b.kind != 2)∧F 1 = .ptr h.length 0 0∧F 3 = .int .i64 b.steps.length∧H=h++[.live 4 [G9 b]]) ?_ ?_
 ·refine I4 (fun ha => ?_) (fun ha => ?_)
  ·simp -implicitDefEqProofs only[vQ,CP,BD,↓reduceIte,jB,enP,ND,ha,DW ag3,QV]
   refine I4 (fun hb => ?_) (fun hb => ?_)
   ·simp -implicitDefEqProofs only[vQ,CP,BD,↓reduceIte,jB,enP,ND,hb,DW ag3,QV]
    exact⟨rfl,trivial,trivial,trivial⟩
   ·simp -implicitDefEqProofs only[vQ,CP,BD,EW,↓reduceIte,jB,hb]
    exact⟨rfl,trivial,trivial,trivial⟩
  ·simp -implicitDefEqProofs only[vQ,CP,BD,EW,↓reduceIte,jB,ha]
   exact⟨rfl,trivial,trivial,trivial⟩
 rintro F H ⟨f7,f1,f3,rfl⟩
 simp -implicitDefEqProofs only[vQ,f7,f1,f3]
 refine CU (fun hk => ?_) (fun hk => ?_)
 ·simp -implicitDefEqProofs only[vQ,BD,↓reduceIte]
  exact⟨by unfold shape; rw[if_pos hk],_,rfl⟩
 have hk' : ¬ (b.kind != 0 && b.kind != 1 && b.kind != 2)=true:=by rw[hk]; simp
 simp -implicitDefEqProofs only[vQ,BD,↓reduceIte,enP,f1,f3]
 refine CU (fun hs => ?_) (fun hs => ?_)
 ·simp -implicitDefEqProofs only[vQ,BD,↓reduceIte,jB,enP,PN,P7,f1,DW SV,YI,jH]
  exact⟨by unfold shape; rw[if_neg hk',if_pos hs],_,rfl⟩
 have hs' : ¬ ((b.steps.length:Int) == 0)=true:=by rw[hs]; simp
 simp -implicitDefEqProofs only[vQ,CP,BD,↓reduceIte,jB,enP,PN,P7,f1,f3,DW SV,YI,jH]
 refine S9 (fun F H=>F 28 = .bool (decide ((b.ranges.l.length:Int) > 0) || b.kind != 0 || decide ((b.steps.length:Int) < 2) || decide ((b.steps.length:Int) > 8))∧F 1 = .ptr h.length 0 0∧H=h++[.live 4 [G9 b]]) ?_ ?_
 ·refine I4 (fun ha => ?_) (fun ha => ?_)
  ·simp -implicitDefEqProofs only[vQ,wU,CP,BD,EW,↓reduceIte,jB,ha,f1]
   exact⟨trivial,trivial,trivial⟩
  simp -implicitDefEqProofs only[vQ,qR,CP,BD,↓reduceIte,jB,enP,ND,ha,f1,DW ag3,QV]
  refine I4 (fun hb => ?_) (fun hb => ?_)
  ·simp -implicitDefEqProofs only[vQ,wU,CP,BD,EW,↓reduceIte,jB,hb,f1]
   exact⟨trivial,trivial,trivial⟩
  simp -implicitDefEqProofs only[vQ,qR,CP,BD,↓reduceIte,jB,enP,hb,f1,f3]
  refine I4 (fun hc => ?_) (fun hc => ?_)
  ·simp -implicitDefEqProofs only[vQ,wU,CP,BD,EW,↓reduceIte,jB,hc,f1]
   exact⟨trivial,trivial,trivial⟩
  ·simp -implicitDefEqProofs only[vQ,qR,CP,BD,↓reduceIte,jB,enP,hc,f1,f3]
   exact⟨trivial,trivial,trivial⟩
 rintro F H ⟨f28,f1,rfl⟩
 simp -implicitDefEqProofs only[vQ,f28,f1]
 refine CU (fun ho => ?_) (fun ho => ?_)
 ·simp -implicitDefEqProofs only[vQ,BD,↓reduceIte]
  exact⟨by unfold shape; rw[if_neg hk',if_neg hs',if_pos ho],_,rfl⟩
 have ho' : ¬ (decide ((b.ranges.l.length:Int) > 0) || b.kind != 0 || decide ((b.steps.length:Int) < 2) || decide ((b.steps.length:Int) > 8))=true:=by rw[ho]; simp
 simp -implicitDefEqProofs only[vQ,BD,↓reduceIte,enP,N9,f1,DW X0,QU]
 refine(AFR G b.steps b.sm 176 [] (fun l=>decide (l.l.length=0)) _ hl fun r=>AXW G r _).use ?_
 simp -implicitDefEqProofs only[vQ,BD,↓reduceIte]
 exact⟨by unfold shape; rw[if_neg hk',if_neg hs',if_neg ho'],_,rfl⟩
theorem ACA {b:Bin}(h:IM b.name=false):IA b=7:=by unfold IA; rw[h]; rfl
theorem ZI {b:Bin}(h:IM b.name=true)(hs:J6 b=true):IA b=1:=by unfold IA; rw[h,hs]; rfl
theorem ZJ {b:Bin}(h:IM b.name=true)(hs:b.steps.any (fun l=>decide (l.l.length=0))=true):IA b=1:=by
 unfold IA; rw[h,hs]; cases J6 b <;> rfl
theorem WB {b:Bin}(h:IM b.name=true)(hs:J6 b=false)(he:b.steps.any (fun l=>decide (l.l.length=0))=false) :
  IA b=if(sets b).any (fun l=>decide (l.l.length > 64)) then 2 else if(sets b).any (fun l=>l.l.any bad) then 1 else 0:=by
 unfold IA; rw[h,hs,he]; rfl
structure BinOk (b:Bin):Prop where
 num:(sets b).length≤1099511627776
 name:b.name.size≤1099511627776
 steps:b.steps.length≤1099511627776
 sets : ∀ l∈sets b,l.l.length≤1099511627776
theorem ALG (xs:List Rng):decide (JZ xs=2)=decide (xs.length > 64):=by
 unfold JZ
 split
 ·simp_all
 ·split <;> simp_all
theorem ACC (xs:List Rng):decide (JZ xs=1)=(decide (¬ xs.length > 64) && xs.any bad):=by
 unfold JZ
 split
 ·rename_i h; simp [h]
 ·rename_i h
  split
  ·rename_i h2; simp only[h2,h]; rfl
  ·rename_i h2; simp only[yC] at h2; simp only[h2]; simp
theorem AVG {b:Bin}(h:IM b.name=true)(hs:J6 b=false)(he:b.steps.any (fun l=>decide (l.l.length=0))=false) :
  IA b=if(sets b).any (fun l=>decide (JZ l.l=2)) then 2 else if(sets b).any (fun l=>decide (JZ l.l=1)) then 1 else 0:=by
 rw[WB h hs he]
 simp only[ALG]
 split
 ·rfl
 ·rename_i hn
  have:(sets b).any (fun l=>decide (JZ l.l=1))=(sets b).any (fun l=>l.l.any bad):=by
   rw[qU,qH,qH]
   constructor
   ·rintro⟨l,h1,h2⟩
    rw[ACC] at h2
    simp only[jX] at h2
    exact⟨l,h1,h2.2⟩
   ·rintro⟨l,h1,h2⟩
    refine⟨l,h1,?_⟩
    rw[ACC,h2]
    rw[yC,wS] at hn
    have:=hn l h1
    simp only[decide_eq_true_eq] at this
    simp only[this,not_false_eq_true,decide_true,Bool.and_self]
  rw[this]
theorem XD {α:Type}(p:α→Bool)(xs:List α)(k:Nat)(h:k < xs.length):(xs.take (k+1)).any p=((xs.take k).any p || p xs[k]):=by
 rw[zN h,List.any_append,List.any_cons,List.any_nil,Bool.or_false]
theorem valid_prog (G:Nat→AV)(hG:KwG G)(b:Bin)(hb:BinOk b)(h:Hp):PCall (En G) 83 [.agg (G9 b)] h (.int .i64 (IA b)):=by
 refine ACalls.pure0 rfl ?_
 refine acN Tryz.func83 rfl ?_
 show awp _ _ _ _ _ (EM _ [.tmp 2] _)
 simp -implicitDefEqProofs only[vQ,BD,↓reduceIte,jB,enP,AFE,bxB,DW ag9,AMZ]
 refine(O1 G hG b.name _ hb.name).use ?_
 simp -implicitDefEqProofs only[vQ,BD,↓reduceIte]
 refine CU (fun hn => ?_) (fun hn => ?_)
 ·simp -implicitDefEqProofs only[vQ,BD,↓reduceIte]
  exact⟨by rw[ACA (by simpa using hn)],_,rfl⟩
 have hn':IM b.name=true:=by simpa using hn
 simp -implicitDefEqProofs only[vQ,BD,↓reduceIte,jB,enP,ldB]
 refine(AOA G b _ hb.steps).use ?_
 simp -implicitDefEqProofs only[vQ,BD,↓reduceIte]
 refine CU (fun hs => ?_) (fun hs => ?_)
 ·simp -implicitDefEqProofs only[vQ,BD,↓reduceIte]
  refine⟨?_,_,rfl⟩
  have h1:shape b=false:=by simpa using hs
  rw[AK2] at h1
  cases hr:J6 b with
  | true=>rw[ZI hn' hr]
  | false =>
    rw[hr] at h1
    rw[ZJ hn' (by simpa using h1)]
 have h1:shape b=true:=by simpa using hs
 rw[AK2] at h1
 simp only[jX,Bool.not_eq_true'] at h1
 have hv:=WB hn' h1.1 h1.2
 simp -implicitDefEqProofs only[vQ,BD,↓reduceIte,jB,enP,ldB]
 refine(AHD G b _).use ?_
 simp -implicitDefEqProofs only[vQ,BD,↓reduceIte,enP,V4,jH]
 refine DL (fun n F H => ∃ k,n+k=(sets b).length∧F 3 = .bool (((sets b).take k).any fun l=>decide (JZ l.l=2))∧F 4 = .bool (((sets b).take k).any fun l=>decide (JZ l.l=1))∧F 15 = .sl (TI b) 1 ((sets b).map encS)∧F 16 = .int .i64 (sets b).length∧F 17 = .int .i64 (k:Nat)∧H=h++[.live 4 [G9 b]]) (sets b).length ⟨0,by simp,rfl,rfl,rfl,rfl,rfl,rfl⟩ ?_
 rintro n F H ⟨k,hk,f3,f4,f15,f16,f17,rfl⟩
 simp -implicitDefEqProofs only[vQ,BD,↓reduceIte,enP,f15,f16,f17]
 refine CU (fun hc => ?_) (fun hc => ?_)
 ·have hc':k < (sets b).length:=by simpa using hc
  simp -implicitDefEqProofs only[vQ,BD,↓reduceIte,jB,enP,AGO,f15,f17,DN hc',CY SV hc',YH]
  refine(ALF G _ _ _ (hb.sets _ (List.getElem_mem hc'))).use ?_
  have t2:=XD (fun l:Rs=>decide (JZ l.l=2)) (sets b) k hc'
  have t1:=XD (fun l:Rs=>decide (JZ l.l=1)) (sets b) k hc'
  simp -implicitDefEqProofs only[vQ,BD,↓reduceIte,enP]
  refine CU (fun hd => ?_) (fun hd => ?_)
  ·have hd':JZ (sets b)[k].l=2:=by simpa using hd
   simp -implicitDefEqProofs only[vQ,BD,↓reduceIte,jB,enP,f17,wrap_succ (show k < 9223372036854775807 by have:=hb.num; omega)]
   refine⟨n - 1,by omega,k+1,by omega,?_,?_,f15,f16,rfl,trivial⟩
   ·rw[t2,hd']; simp
   ·rw[f4,t1,hd']; simp
  simp -implicitDefEqProofs only[vQ,BD,↓reduceIte,jB,enP]
  refine CU (fun he => ?_) (fun he => ?_)
  ·have he':JZ (sets b)[k].l=1:=by simpa using he
   simp -implicitDefEqProofs only[vQ,BD,↓reduceIte,jB,enP,f17,wrap_succ (show k < 9223372036854775807 by have:=hb.num; omega)]
   refine⟨n - 1,by omega,k+1,by omega,?_,?_,f15,f16,rfl,trivial⟩
   ·rw[f3,t2,he']; simp
   ·rw[t1,he']; simp
  ·have hd':JZ (sets b)[k].l≠2:=by simpa using hd
   have he':JZ (sets b)[k].l≠1:=by simpa using he
   simp -implicitDefEqProofs only[vQ,BD,↓reduceIte,jB,enP,f17,wrap_succ (show k < 9223372036854775807 by have:=hb.num; omega)]
   refine⟨n - 1,by omega,k+1,by omega,?_,?_,f15,f16,rfl,trivial⟩
   ·rw[f3,t2]; simp [hd']
   ·rw[f4,t1]; simp [he']
 ·have hc' : ¬ k < (sets b).length:=by simpa using hc
  rw[jW (by omega)] at f3 f4
  have hE:=AVG hn' h1.1 h1.2
  simp -implicitDefEqProofs only[vQ,BD,↓reduceIte,jB,f3,f4]
  refine CU (fun hd => ?_) (fun hd => ?_)
  ·simp -implicitDefEqProofs only[vQ,BD,↓reduceIte]
   exact⟨by rw[hE,if_pos hd],_,rfl⟩
  simp -implicitDefEqProofs only[vQ,BD,↓reduceIte,jB,f4]
  refine CU (fun he => ?_) (fun he => ?_)
  ·simp -implicitDefEqProofs only[vQ,BD,↓reduceIte]
   exact⟨by rw[hE,if_neg (by rw[hd]; simp),if_pos he],_,rfl⟩
  ·simp -implicitDefEqProofs only[vQ,BD,↓reduceIte]
   exact⟨by rw[hE,if_neg (by rw[hd]; simp),if_neg (by rw[he]; simp)],_,rfl⟩
theorem valid_ref (G:Nat→AV)(b:Bin)(hb:BinOk b)(h:Hp):PCall (En G) 94 [.agg (G9 b)] h (.int .i64 (IA b)):=by
 refine ACalls.pure0 rfl ?_
 refine acN Tryz.func94 rfl ?_
 show awp _ _ _ _ _ (EM _ [.tmp 2] _)
 simp -implicitDefEqProofs only[vQ,BD,↓reduceIte,jB,enP,AFE,bxB,DW ag9,AMZ]
 refine(P6 G b.name _).use ?_
 simp -implicitDefEqProofs only[vQ,BD,↓reduceIte]
 refine CU (fun hn => ?_) (fun hn => ?_)
 ·simp -implicitDefEqProofs only[vQ,BD,↓reduceIte]
  exact⟨by rw[ACA (by simpa using hn)],_,rfl⟩
 have hn':IM b.name=true:=by simpa using hn
 simp -implicitDefEqProofs only[vQ,CP,BD,↓reduceIte,jB,enP,ND,DW ag3,QV]
 refine S9 (fun F H=>F 53 = .bool (J6 b)∧F 1 = .ptr h.length 0 0∧H=h++[.live 4 [G9 b]]) ?_ ?_
 ·refine I4 (fun ha => ?_) (fun ha => ?_)
  ·simp -implicitDefEqProofs only[vQ,CP,BD,EW,↓reduceIte,jB,ha]
   exact⟨by unfold J6; rw[ha]; rfl,trivial,trivial⟩
  simp -implicitDefEqProofs only[vQ,CP,BD,↓reduceIte,jB,enP,ND,ha,DW ag3,QV]
  refine I4 (fun hb => ?_) (fun hb => ?_)
  ·simp -implicitDefEqProofs only[vQ,CP,BD,EW,↓reduceIte,jB,hb]
   exact⟨by unfold J6; rw[ha,hb]; rfl,trivial,trivial⟩
  simp -implicitDefEqProofs only[vQ,CP,BD,↓reduceIte,jB,enP,be4,PN,V4,P7,N9,hb,DW SV,DW X0,YI,QU,jH]
  refine I4 (fun hc => ?_) (fun hc => ?_)
  ·simp -implicitDefEqProofs only[vQ,CP,BD,EW,↓reduceIte,jB,hc]
   exact⟨by unfold J6; rw[ha,hb,hc]; rfl,trivial,trivial⟩
  simp -implicitDefEqProofs only[vQ,CP,BD,↓reduceIte,jB,enP,ND,hc,DW ag3,QV]
  refine I4 (fun hd => ?_) (fun hd => ?_)
  ·simp -implicitDefEqProofs only[vQ,CP,BD,↓reduceIte,jB,enP,V4,N9,hd,DW X0,QU,jH]
   refine I4 (fun he => ?_) (fun he => ?_)
   ·simp -implicitDefEqProofs only[vQ,CP,BD,EW,↓reduceIte,jB,he]
    exact⟨by unfold J6; rw[ha,hb,hc,hd,he]; rfl,trivial,trivial⟩
   simp -implicitDefEqProofs only[vQ,CP,BD,↓reduceIte,jB,enP,V4,N9,he,DW X0,QU,jH]
   refine I4 (fun hf => ?_) (fun hf => ?_)
   ·simp -implicitDefEqProofs only[vQ,CP,BD,EW,↓reduceIte,jB,hf]
    exact⟨by unfold J6; rw[ha,hb,hc,hd,he,hf]; rfl,trivial,trivial⟩
   ·simp -implicitDefEqProofs only[vQ,CP,BD,↓reduceIte,jB,enP,V4,N9,hf,DW X0,QU,jH]
    exact⟨by unfold J6; rw[ha,hb,hc,hd,he,hf]; rfl,trivial,trivial⟩
  ·simp -implicitDefEqProofs only[vQ,CP,BD,EW,↓reduceIte,jB,enP,V4,N9,hd,DW X0,QU,jH]
   refine I4 (fun hf => ?_) (fun hf => ?_)
   ·simp -implicitDefEqProofs only[vQ,CP,BD,EW,↓reduceIte,jB,hf]
    exact⟨by unfold J6; rw[ha,hb,hc,hd,hf]; rfl,trivial,trivial⟩
   ·simp -implicitDefEqProofs only[vQ,CP,BD,↓reduceIte,jB,enP,V4,N9,hf,DW X0,QU,jH]
    exact⟨by unfold J6; rw[ha,hb,hc,hd,hf]; rfl,trivial,trivial⟩
 rintro F H ⟨f53,f1,rfl⟩
 simp -implicitDefEqProofs only[vQ,f53,f1]
 refine CU (fun hs => ?_) (fun hs => ?_)
 ·simp -implicitDefEqProofs only[vQ,BD,↓reduceIte]
  exact⟨by rw[ZI hn' hs],_,rfl⟩
 simp -implicitDefEqProofs only[vQ,BD]
 refine GZ 0 (fun F H=>F 1 = .ptr h.length 0 0∧H=h++[.live 4 [G9 b]]∧b.steps.any (fun l=>decide (l.l.length=0))=false) (fun F H=>F 2 = .int .i64 (IA b)∧H=h++[.live 4 [G9 b]]) ?_ ?_ ?_
 ·refine DL (fun n F H => ∃ k,n+k=b.steps.length∧F 1 = .ptr h.length 0 0∧F 3 = .int .i64 (k:Nat)∧H=h++[.live 4 [G9 b]]∧(b.steps.take k).any (fun l=>decide (l.l.length=0))=false) b.steps.length ⟨0,by simp,by simp -implicitDefEqProofs only[AA,↓reduceIte,jB,f1],by simp -implicitDefEqProofs only[AA,↓reduceIte]; rfl,rfl,rfl⟩ ?_
  rintro n F H ⟨k,hk,f1,f3,rfl,hin⟩
  simp -implicitDefEqProofs only[vQ,BD,↓reduceIte,jB,enP,V4,N9,f1,f3,DW X0,QU,jH]
  refine CU (fun hc => ?_) (fun hc => ?_)
  ·have hc':k < b.steps.length:=by simpa using hc
   have t0:=XD (fun l:Rs=>decide (l.l.length=0)) b.steps k hc'
   simp -implicitDefEqProofs only[vQ,BD,↓reduceIte,jB,enP,PN,AGO,N9,f1,f3,DW X0,QU,DN hc',CY SV hc',YH,jH]
   refine CU (fun hd => ?_) (fun hd => ?_)
   ·simp -implicitDefEqProofs only[vQ,BD,↓reduceIte]
    refine⟨?_,trivial⟩
    have:b.steps.any (fun l=>decide (l.l.length=0))=true:=by
     rw[qH]
     exact⟨b.steps[k],by simp,by simp at hd; simp [hd]⟩
    rw[ZJ hn' this]
   ·simp -implicitDefEqProofs only[vQ,BD,↓reduceIte,jB,enP,f3,wrap_succ (show k < 9223372036854775807 by have:=hb.steps; omega)]
    refine⟨n - 1,by omega,k+1,by omega,f1,rfl,trivial,?_⟩
    rw[t0,hin]
    simp at hd
    simp [hd]
  ·have hc' : ¬ k < b.steps.length:=by simpa using hc
   simp -implicitDefEqProofs only[vQ,↓reduceIte,jB]
   rw[jW (by omega)] at hin
   exact⟨f1,trivial,hin⟩
 ·rintro F H ⟨f1,rfl,he⟩
  have hs':J6 b=false:=by simpa using hs
  have hv:=WB hn' hs' he
  simp -implicitDefEqProofs only[vQ,BD,↓reduceIte,enP,f1,ldB]
  refine(AK3 G b _).use ?_
  simp -implicitDefEqProofs only[vQ,BD,↓reduceIte]
  refine GZ 2 (fun F H=>F 4 = .sl (TI b) 1 ((sets b).map encS)∧H=h++[.live 4 [G9 b]]∧(sets b).any (fun l=>decide (l.l.length > 64))=false) (fun F H=>F 2 = .int .i64 (IA b)∧H=h++[.live 4 [G9 b]]) ?_ ?_ ?_
  ·refine DL (fun n F H => ∃ k,n+k=(sets b).length∧F 4 = .sl (TI b) 1 ((sets b).map encS)∧F 5 = .int .i64 (k:Nat)∧H=h++[.live 4 [G9 b]]∧((sets b).take k).any (fun l=>decide (l.l.length > 64))=false) (sets b).length ⟨0,by simp,by simp -implicitDefEqProofs only[AA,↓reduceIte,jB],by simp -implicitDefEqProofs only[AA,↓reduceIte]; rfl,rfl,rfl⟩ ?_
   rintro n F H ⟨k,hk,f4,f5,rfl,hin⟩
   simp -implicitDefEqProofs only[vQ,BD,↓reduceIte,jB,enP,V4,f4,f5,jH]
   refine CU (fun hc => ?_) (fun hc => ?_)
   ·have hc':k < (sets b).length:=by simpa using hc
    have t0:=XD (fun l:Rs=>decide (l.l.length > 64)) (sets b) k hc'
    simp -implicitDefEqProofs only[vQ,BD,↓reduceIte,jB,enP,PN,AGO,f4,f5,DN hc',CY SV hc',YH,jH]
    refine CU (fun hd => ?_) (fun hd => ?_)
    ·simp -implicitDefEqProofs only[vQ,BD,↓reduceIte]
     refine⟨?_,trivial⟩
     have:(sets b).any (fun l=>decide (l.l.length > 64))=true:=by
      rw[qH]
      exact⟨(sets b)[k],by simp,by simp at hd ⊢; omega⟩
     rw[hv,if_pos this]
    ·simp -implicitDefEqProofs only[vQ,BD,↓reduceIte,jB,enP,f5,wrap_succ (show k < 9223372036854775807 by have:=hb.num; omega)]
     refine⟨n - 1,by omega,k+1,by omega,f4,rfl,trivial,?_⟩
     rw[t0,hin]
     simp at hd ⊢
     omega
   ·have hc' : ¬ k < (sets b).length:=by simpa using hc
    simp -implicitDefEqProofs only[vQ,↓reduceIte,jB]
    rw[jW (by omega)] at hin
    exact⟨f4,trivial,hin⟩
  ·rintro F H ⟨f4,rfl,h64⟩
   rw[h64] at hv
   simp only[Bool.false_eq_true,if_false] at hv
   simp -implicitDefEqProofs only[vQ,BD,↓reduceIte,f4]
   refine DL (fun n F H => ∃ k,n+k=(sets b).length∧F 4 = .sl (TI b) 1 ((sets b).map encS)∧F 6 = .int .i64 (k:Nat)∧H=h++[.live 4 [G9 b]]∧((sets b).take k).any (fun l=>l.l.any bad)=false) (sets b).length ⟨0,by simp,by simp -implicitDefEqProofs only[AA,↓reduceIte,jB,f4],by simp -implicitDefEqProofs only[AA,↓reduceIte]; rfl,rfl,rfl⟩ ?_
   rintro n F H ⟨k,hk,f4,f6,rfl,hin⟩
   simp -implicitDefEqProofs only[vQ,BD,↓reduceIte,jB,enP,V4,f4,f6,jH]
   refine CU (fun hc => ?_) (fun hc => ?_)
   ·have hc':k < (sets b).length:=by simpa using hc
    have t0:=XD (fun l:Rs=>l.l.any bad) (sets b) k hc'
    simp -implicitDefEqProofs only[vQ,BD,↓reduceIte,jB,enP,AGO,f4,f6,DN hc',CY SV hc',YH,jH]
    refine(AOJ G _ _ _).use ?_
    have hk64 : ¬ (sets b)[k].l.length > 64:=by
     rw[wS] at h64
     have:=h64 (sets b)[k] (by simp)
     simpa using this
    simp -implicitDefEqProofs only[vQ,BD,↓reduceIte,enP]
    cases hbad:(sets b)[k].l.any bad with
    | true =>
      have hr:=WM hk64 hbad
      refine CU (fun hd => ?_) (fun hd => ?_)
      ·simp -implicitDefEqProofs only[vQ,BD,↓reduceIte,jB]
       refine⟨?_,_,rfl⟩
       have:(sets b).any (fun l=>l.l.any bad)=true:=by
        rw[qH]
        exact⟨(sets b)[k],by simp,hbad⟩
       rw[hr,hv,if_pos this]
      ·rw[hr] at hd; simp at hd
    | false =>
      have hr:=YW hk64 hbad
      refine CU (fun hd => ?_) (fun hd => ?_)
      ·rw[hr] at hd; simp at hd
      ·simp -implicitDefEqProofs only[vQ,BD,↓reduceIte,jB,enP,f6,wrap_succ (show k < 9223372036854775807 by have:=hb.num; omega)]
       refine⟨n - 1,by omega,k+1,by omega,f4,rfl,trivial,?_⟩
       rw[t0,hin,hbad]; rfl
   ·have hc' : ¬ k < (sets b).length:=by simpa using hc
    simp -implicitDefEqProofs only[vQ,BD,↓reduceIte]
    rw[jW (by omega)] at hin
    exact⟨by rw[hv,if_neg (by rw[hin]; simp)],_,rfl⟩
  ·rintro F H ⟨f2,rfl⟩
   simp -implicitDefEqProofs only[vQ]
   exact⟨f2,_,rfl⟩
 ·rintro F H ⟨f2,rfl⟩
  simp -implicitDefEqProofs only[vQ]
  exact⟨by rw[f2],_,rfl⟩
end Go.Proofs.YtfpagfhhhlljjaaGreatDoor.Bins
namespace Go.Proofs.YtfpagfhhhlljjaaGreatDoor.Cov
open Sm Bins
open Bool renaming not_false→jC
open Int renaming reduceBEq→zF
open List renaming drop_zero→zU,take_of_length_le→jW
open Nat renaming le_refl→jL,le_of_ble_eq_true→jI,reduceEqDiff→jB,add_zero→jK
open Option renaming getD_some→jA
inductive Ex where
 | mk (op n:Int) (name:ByteArray) (m:SM) (args:List Ex)
def Ex.op:Ex→Int | .mk op _ _ _ _=>op
def Ex.n:Ex→Int | .mk _ n _ _ _=>n
def Ex.name:Ex→ByteArray | .mk _ _ name _ _=>name
def Ex.m:Ex→SM | .mk _ _ _ m _=>m
def Ex.args:Ex→List Ex | .mk _ _ _ _ args=>args
mutual
def DX:Ex→List AV
 | .mk op n name m args => [.int .i64 op,.int .i64 n,.str name,.sl m 4 (AMX args)]
def AMX:List Ex→List (List AV)
 | [] => []
 | e :: es=>DX e :: AMX es
end
theorem AH6 : ∀ l:List Ex,AMX l=l.map DX
 | []=>by simp [AMX]
 | e :: es=>by simp [AMX,AH6 es]
theorem JJ (e:Ex):DX e = [.int .i64 e.op,.int .i64 e.n,.str e.name,.sl e.m 4 (e.args.map DX)]:=by
 cases e; simp [DX,AH6,Ex.op,Ex.n,Ex.name,Ex.m,Ex.args]
theorem JE (e:Ex):(DX e).length=4:=by rw[JJ]; rfl
theorem KR (e:Ex):(DX e)[0]? = some (.int .i64 e.op):=by rw[JJ]; rfl
theorem AAP (e:Ex):(DX e)[1]? = some (.int .i64 e.n):=by rw[JJ]; rfl
theorem QT (e:Ex):(DX e)[2]? = some (.str e.name):=by rw[JJ]; rfl
theorem AAO (e:Ex):(DX e)[3]? = some (.sl e.m 4 (e.args.map DX)):=by rw[JJ]; rfl
theorem ABY (e:Ex):(DX e).all AV.leaf=true:=by rw[JJ]; rfl
theorem bxE (h:Hp)(e:Ex):O7 h (.agg (DX e))=some (.ptr h.length 0 0,h++[.live 4 [DX e]]):=by
 have:=VS (h:=h) (ABY e)
 rw[JE] at this; exact this
theorem ldE (h:Hp)(e:Ex):D8 Tryz.prog (h++[.live 4 [DX e]]) 48 (.ptr h.length 0 0)=some (.agg (DX e)):=by
 rw[UT X4 N7 (by rw[JE]; exact jL 4)]
 rw[zU,jW (by rw[JE]; exact jL 4)]
theorem NM {h:Hp}{b:Nat}{e:Ex}(hb:h[b]? = some (.live 4 [DX e])):D8 Tryz.prog h 48 (.ptr b 0 0)=some (.agg (DX e)):=by
 rw[IJ X4 N7 hb rfl (by rw[JE]; exact jL 4)]
 rw[zU,jW (by rw[JE]; exact jL 4)]
mutual
def pre:Ex→List Ex
 | .mk op n name m args => .mk op n name m args :: J4 args
def J4:List Ex→List Ex
 | [] => []
 | e :: es=>pre e++J4 es
end
mutual
def dep:Ex→Nat
 | .mk _ _ _ _ args=>deps args+1
def deps:List Ex→Nat
 | []=>0
 | e :: es=>max (dep e) (deps es)
end
mutual
def wt:Ex→Nat
 | .mk _ _ name _ args=>name.size+1+wts args
def wts:List Ex→Nat
 | []=>0
 | e :: es=>wt e+wts es
end
theorem pre_eq (e:Ex):pre e=e :: J4 e.args:=by cases e; simp [pre,Ex.args]
theorem AJY (e:Ex):dep e=deps e.args+1:=by cases e; simp [dep,Ex.args]
theorem NF (e:Ex):wt e=e.name.size+1+wts e.args:=by cases e; simp [wt,Ex.args,Ex.name]
theorem QH (xs ys:List Ex):J4 (xs++ys)=J4 xs++J4 ys:=by
 induction xs with
 | nil=>simp [J4]
 | cons x xs ih=>simp [J4,ih]
theorem VA (xs:List Ex):xs.length≤wts xs:=by
 induction xs with
 | nil=>simp [wts]
 | cons x xs ih=>have:=NF x; simp [wts]; omega
theorem U9 {xs:List Ex}{x:Ex}(h:x∈xs):wt x≤wts xs:=by
 induction xs with
 | nil=>cases h
 | cons y ys ih =>
   simp only[wts]
   cases List.mem_cons.1 h with
   | inl e=>subst e; omega
   | inr e=>have:=ih e; omega
theorem AH7 (xs:List Ex)(k:Nat)(h:k < xs.length):deps (xs.take (k+1))=max (deps (xs.take k)) (dep xs[k]):=by
 induction xs generalizing k with
 | nil=>simp at h
 | cons x xs ih =>
   cases k with
   | zero=>simp [deps]
   | succ k =>
     simp only[List.take_succ_cons,deps,List.getElem_cons_succ]
     rw[ih k (by simpa using h),Nat.max_assoc]
theorem Ex.induct {P:Ex→Prop}(h : ∀ e:Ex,(∀ a∈e.args,P a)→P e)(e:Ex):P e:=by
 have : ∀ n (e:Ex),wt e≤n→P e:=by
  intro n
  induction n with
  | zero=>intro e he; have:=NF e; omega
  | succ n ih =>
    intro e he
    refine h e fun a ha=>ih a ?_
    have h1:=U9 ha
    have h2:=NF e
    omega
 exact this _ e (jL _)
theorem AX0 (e:Ex):dep e≤wt e:=by
 refine Ex.induct (P:=fun e=>dep e≤wt e) (fun e ih => ?_) e
 rw[AJY,NF]
 have:deps e.args≤wts e.args:=by
  generalize e.args=l at ih
  induction l with
  | nil=>simp [deps,wts]
  | cons x l ih2 =>
    have h1:=ih x (by simp)
    have h2:=ih2 (fun a ha=>ih a (by simp [ha]))
    simp only[deps,wts]; omega
 omega
theorem AIZ (e:Ex):(pre e).length≤wt e:=by
 refine Ex.induct (P:=fun e=>(pre e).length≤wt e) (fun e ih => ?_) e
 rw[pre_eq,NF]
 have:(J4 e.args).length≤wts e.args:=by
  generalize e.args=l at ih
  induction l with
  | nil=>simp [J4,wts]
  | cons x l ih2 =>
    have h1:=ih x (by simp)
    have h2:=ih2 (fun a ha=>ih a (by simp [ha]))
    simp only[J4,wts,List.length_append]; omega
 simp; omega
def arity (op:Int):Int:=if op < 1∨op > 25 then -1 else if op=1∨op=2∨op=24 then 0 else if op=3∨op=4∨op=5∨op=6∨op=25 then 1 else if op=22 then 3 else if op=23 then -1 else 2
set_option maxHeartbeats 2000000 in
theorem APZ (G:Nat→AV)(op:Int)(h:Hp):PCall (En G) 149 [.int .i64 op] h (.int .i64 (arity op)):=by
 refine acN Tryz.func149 rfl ?_
 show awp _ _ _ _ _ (EM _ [.tmp 2] _)
 have hcase:op < 1∨op > 25∨op=1∨op=2∨op=3∨op=4∨op=5∨op=6∨op=7∨op=8∨op=9∨op=10∨op=11∨op=12∨op=13∨op=14∨op=15∨op=16∨op=17∨op=18∨op=19∨op=20∨op=21∨op=22∨op=23∨op=24∨op=25:=by omega
 rcases hcase with h | h | rfl | rfl | rfl | rfl | rfl | rfl | rfl | rfl | rfl | rfl | rfl | rfl | rfl | rfl | rfl | rfl | rfl | rfl | rfl | rfl | rfl | rfl | rfl | rfl | rfl
 ·have hne : ∀ k:Int,1≤k→(op == k)=false:=fun k hk=>beq_eq_false_iff_ne.2 (by omega)
  have hd:decide (op < 1)=true:=by simp; omega
  have ha:arity op = -1:=by unfold arity; rw[if_pos (Or.inl h)]
  rw[ha]
  simp -implicitDefEqProofs only[vQ,CP,BD,EW,↓reduceIte,jB,enP,hne 1 (by decide),hne 2 (by decide),hne 3 (by decide),hne 4 (by decide),hne 5 (by decide),hne 6 (by decide),hne 7 (by decide),hne 8 (by decide),hne 9 (by decide),hne 10 (by decide),hne 11 (by decide),hne 12 (by decide),hne 13 (by decide),hne 14 (by decide),hne 15 (by decide),hne 16 (by decide),hne 17 (by decide),hne 18 (by decide),hne 19 (by decide),hne 20 (by decide),hne 21 (by decide),hne 22 (by decide),hne 23 (by decide),hne 24 (by decide),hne 25 (by decide),hd]
  exact⟨trivial,trivial⟩
 ·have hne : ∀ k:Int,k≤25→(op == k)=false:=fun k hk=>beq_eq_false_iff_ne.2 (by omega)
  have hd:decide (op < 1)=false:=by simp; omega
  have hd2:decide (op > 25)=true:=by simp; omega
  have ha:arity op = -1:=by unfold arity; rw[if_pos (Or.inr h)]
  rw[ha]
  simp -implicitDefEqProofs only[vQ,CP,BD,↓reduceIte,jB,enP,hne 1 (by decide),hne 2 (by decide),hne 3 (by decide),hne 4 (by decide),hne 5 (by decide),hne 6 (by decide),hne 7 (by decide),hne 8 (by decide),hne 9 (by decide),hne 10 (by decide),hne 11 (by decide),hne 12 (by decide),hne 13 (by decide),hne 14 (by decide),hne 15 (by decide),hne 16 (by decide),hne 17 (by decide),hne 18 (by decide),hne 19 (by decide),hne 20 (by decide),hne 21 (by decide),hne 22 (by decide),hne 23 (by decide),hne 24 (by decide),hne 25 (by decide),hd,hd2]
  exact⟨trivial,trivial⟩
 all_goals
  simp -implicitDefEqProofs only[vQ,CP,BD,↓reduceIte,jB,decide_false,enP,zF,Int.reduceLT,Int.reduceGT]
  exact⟨rfl,trivial⟩
set_option maxHeartbeats 2000000 in
theorem AUQ (G:Nat→AV)(op:Int)(h:Hp):PCall (En G) 186 [.int .i64 op] h (.int .i64 (arity op)):=by
 refine acN Tryz.func186 rfl ?_
 show awp _ _ _ _ _ (EM _ [.tmp 2] _)
 have hcase:op < 1∨op > 25∨op=1∨op=2∨op=3∨op=4∨op=5∨op=6∨op=7∨op=8∨op=9∨op=10∨op=11∨op=12∨op=13∨op=14∨op=15∨op=16∨op=17∨op=18∨op=19∨op=20∨op=21∨op=22∨op=23∨op=24∨op=25:=by omega
 rcases hcase with h | h | rfl | rfl | rfl | rfl | rfl | rfl | rfl | rfl | rfl | rfl | rfl | rfl | rfl | rfl | rfl | rfl | rfl | rfl | rfl | rfl | rfl | rfl | rfl | rfl | rfl
 ·have hne : ∀ k:Int,1≤k→(op == k)=false:=fun k hk=>beq_eq_false_iff_ne.2 (by omega)
  have hd:decide (op < 1)=true:=by simp; omega
  have ha:arity op = -1:=by unfold arity; rw[if_pos (Or.inl h)]
  rw[ha]
  simp -implicitDefEqProofs only[vQ,CP,BD,EW,↓reduceIte,jB,enP,hne 1 (by decide),hne 2 (by decide),hne 3 (by decide),hne 4 (by decide),hne 5 (by decide),hne 6 (by decide),hne 7 (by decide),hne 8 (by decide),hne 9 (by decide),hne 10 (by decide),hne 11 (by decide),hne 12 (by decide),hne 13 (by decide),hne 14 (by decide),hne 15 (by decide),hne 16 (by decide),hne 17 (by decide),hne 18 (by decide),hne 19 (by decide),hne 20 (by decide),hne 21 (by decide),hne 22 (by decide),hne 23 (by decide),hne 24 (by decide),hne 25 (by decide),hd]
  exact⟨trivial,trivial⟩
 ·have hne : ∀ k:Int,k≤25→(op == k)=false:=fun k hk=>beq_eq_false_iff_ne.2 (by omega)
  have hd:decide (op < 1)=false:=by simp; omega
  have hd2:decide (op > 25)=true:=by simp; omega
  have ha:arity op = -1:=by unfold arity; rw[if_pos (Or.inr h)]
  rw[ha]
  simp -implicitDefEqProofs only[vQ,CP,BD,↓reduceIte,jB,enP,hne 1 (by decide),hne 2 (by decide),hne 3 (by decide),hne 4 (by decide),hne 5 (by decide),hne 6 (by decide),hne 7 (by decide),hne 8 (by decide),hne 9 (by decide),hne 10 (by decide),hne 11 (by decide),hne 12 (by decide),hne 13 (by decide),hne 14 (by decide),hne 15 (by decide),hne 16 (by decide),hne 17 (by decide),hne 18 (by decide),hne 19 (by decide),hne 20 (by decide),hne 21 (by decide),hne 22 (by decide),hne 23 (by decide),hne 24 (by decide),hne 25 (by decide),hd,hd2]
  exact⟨trivial,trivial⟩
 all_goals
  simp -implicitDefEqProofs only[vQ,BD,↓reduceIte,jB,enP,zF,Int.reduceLT,Int.reduceGT]
  exact⟨rfl,trivial⟩
def LX (op:Int):Bool:=op == 2 || op == 3 || op == 24
theorem XL (G:Nat→AV)(op:Int)(h:Hp):PCall (En G) 185 [.int .i64 op] h (.bool (LX op)):=by
 refine acN Tryz.func185 rfl ?_
 show awp _ _ _ _ _ (EM _ [.tmp 2] _)
 simp -implicitDefEqProofs only[vQ,CP,BD,↓reduceIte,jB,enP]
 cases ha:(op == 2) <;> cases hb:(op == 3)
 all_goals
  simp -implicitDefEqProofs only[vQ,CP,BD,EW,↓reduceIte,jB,enP,ha,hb]
  exact⟨by simp [LX,ha,hb],trivial⟩
def ABJ (op:Int)(n:Nat):Bool:=if op == 23 then ((n:Int) % 2 == 1) && decide ((n:Int)≥3) && decide ((n:Int)≤33) else ((n:Int) == arity op)
theorem AGN (G:Nat→AV)(e:Ex)(h:Hp):PCall (En G) 105 [.agg (DX e)] h (.bool (ABJ e.op e.args.length)):=by
 refine ACalls.pure0 rfl ?_
 refine acN Tryz.func105 rfl ?_
 show awp _ _ _ _ _ (EM _ [.tmp 2] _)
 simp -implicitDefEqProofs only[vQ,BD,↓reduceIte,jB,Nat.zero_add,enP,WS,I7,OA,bxE,DW VT,DW ag3,AAO,KR,List.length_map]
 generalize he:e.args.length=n
 have hm:(n:Int).tmod 2=(n:Int) % 2:=Int.tmod_eq_emod_of_nonneg (by omega)
 have b1:JY Tryz.prog 3 .rem (.int .i64 (n:Int)) (.int .i64 2)=some (.int .i64 ((n:Int) % 2)):=by rw[ADJ _ _ _ _ _ (by decide),hm]
 refine CU (fun hc => ?_) (fun hc => ?_)
 ·simp -implicitDefEqProofs only[vQ,CP,BD,↓reduceIte,jB,enP,b1]
  cases ha:((n:Int) % 2 == 1) <;> cases hb:decide ((n:Int)≥3)
  all_goals
   simp -implicitDefEqProofs only[vQ,CP,BD,EW,↓reduceIte,jB,enP,ha,hb]
   exact⟨by unfold ABJ; rw[if_pos hc,ha,hb]; simp,_,rfl⟩
 ·simp -implicitDefEqProofs only[vQ,BD,List.map_cons,List.map_nil,List.append_nil,↓reduceIte,jB,enP,I7,DW ag3,KR]
  refine(APZ G e.op _).use ?_
  simp -implicitDefEqProofs only[vQ,BD,↓reduceIte,jB,enP]
  exact⟨by unfold ABJ; rw[if_neg (by rw[hc]; decide)],_,rfl⟩
end Go.Proofs.YtfpagfhhhlljjaaGreatDoor.Cov
namespace Go.Proofs.YtfpagfhhhlljjaaGreatDoor.Cov
open Sm Bins Go.Shelf Go.RowKit
open Bool renaming and_eq_true→jX
open Int renaming toNat_natCast→qV
open List renaming drop_eq_getElem_cons→zK,getElem?_eq_getElem→jS
def AX5:Go.Shelf.Ren:=⟨fun | 145=>184 | 220=>214 | 219=>242 | 217=>254 | 225=>255 | 224=>256 | 267=>257 | 266=>273 | 314=>274 | n=>n,fun | 9=>9 | 4=>4 | 59=>202 | 3=>3 | 5=>5 | 46=>201 | 146=>253 | 51=>225 | n=>n,fun | 1=>1 | n=>n⟩
theorem A83:Go.Proofs.Lays.n145 Tryz.prog AX5 := {
 mixed:=by kernel_rfl,
 f145:=Tryz.func184.trans (congrArg some (by kernel_rfl)),
 f217:=Tryz.func254.trans (congrArg some (by kernel_rfl)),
 f219:=Tryz.func242.trans (congrArg some (by kernel_rfl)),
 f220:=Tryz.func214.trans (congrArg some (by kernel_rfl)),
 f224:=Tryz.func256.trans (congrArg some (by kernel_rfl)),
 f225:=Tryz.func255.trans (congrArg some (by kernel_rfl)),
 f266:=Tryz.func273.trans (congrArg some (by kernel_rfl)),
 f267:=Tryz.func257.trans (congrArg some (by kernel_rfl)),
 f314:=Tryz.func274.trans (congrArg some (by kernel_rfl)),
 t3:=Tryz.underlying3,
 a3:=Tryz.isAgg3,
 z3:=Tryz.sizeOf3,
 v3:=Tryz.zeroValue3,
 t4:=Tryz.underlying4,
 a4:=Tryz.isAgg4,
 z4:=Tryz.sizeOf4,
 v4:=Tryz.zeroValue4,
 t5:=Tryz.underlying5,
 a5:=Tryz.isAgg5,
 z5:=Tryz.sizeOf5,
 v5:=Tryz.zeroValue5,
 t9:=Tryz.underlying9,
 a9:=Tryz.isAgg9,
 z9:=Tryz.sizeOf9,
 v9:=Tryz.zeroValue9,
 t46:=Tryz.underlying201,
 a46:=Tryz.isAgg201,
 z46:=Tryz.sizeOf201,
 v46:=Tryz.zeroValue201,
 t51:=Tryz.underlying225,
 a51:=Tryz.isAgg225,
 z51:=Tryz.sizeOf225,
 v51:=Tryz.zeroValue225,
 t59:=Tryz.underlying202,
 a59:=Tryz.isAgg202,
 z59:=Tryz.sizeOf202,
 v59:=Tryz.zeroValue202,
 t146:=Tryz.underlying253,
 a146:=Tryz.isAgg253,
 z146:=Tryz.sizeOf253,
 v146:=Tryz.zeroValue253,
 g1:=by kernel_rfl }
structure GOk (G:Nat→AV):Prop where
 kw:KwG G
 mx : ∃ n,G 1 = .fptr 1 [[.int .i64 n]] 0 0
theorem AXI {G:Nat→AV}{g:Gh}{h:Hp}{w:World}{n:Nat}{k:IntKind}{z:Int}(S:SimH (En G) g h w)(hn:G n = .fptr 1 [[.int k z]] 0 0):w.cell? ⟨n,0,none⟩=some (.int k z):=by
 have:=S.glob n
 rw[enG,hn] at this
 generalize hp:Value.pointer (some ⟨n,0,none⟩)=p at this
 cases this with
 | fptr k' xs i j cb co c e fz cv h1 h2 h3 h4 =>
   simp only[Value.pointer.injEq,Option.some.injEq,Addr.mk.injEq] at hp
   obtain⟨rfl,hco,_⟩:=hp
   have h5:=h3 0 0 (by simp) (by simp)
   have h6:=h4 0 0 _ _ rfl rfl
   generalize cv 0 0=u at h5 h6
   cases h6
   simp only[World.cell?,S.fro _ _ h1]
   subst hco
   exact h5
def cutV (s:ByteArray):AV := .tup [.str ⟨(Lib.cut s.data.toList [91]).1.toArray⟩,.str ⟨(Lib.cut s.data.toList [91]).2.1.toArray⟩,.bool (Lib.cut s.data.toList [91]).2.2]
theorem AX4 (G:Nat→AV)(hG:GOk G)(s:ByteArray)(h:Hp)(hl:s.size≤1048576):PCall (En G) 184 [.str s,.str ⟨#[91]⟩] h (cutV s):=by
 refine PCall.of_reads (cok 184 G (by kernel_rfl)) fun g w cargs S ha => ?_
 obtain⟨hsz,hget⟩:=ha
 obtain⟨cv0,cv1,rfl⟩ : ∃ a b,cargs = #[a,b]:=by
  obtain⟨l⟩:=cargs
  match l,hsz with
  | [a,b],_=>exact⟨a,b,rfl⟩
 obtain rfl:=(hget 0 _ cv0 rfl rfl).str_inv
 obtain rfl:=(hget 1 _ cv1 rfl rfl).str_inv
 obtain⟨z,hz⟩:=hG.mx
 have hc:=AXI S hz
 have:=Any.strings_Cut A83 s ⟨#[91]⟩ z w (by omega) hc
 refine⟨_,?_,this⟩
 refine .tup _ _ rfl ?_
 intro i v cv h1 h2
 match i,h1,h2 with
 | 0,h1,h2=>simp at h1 h2; subst h1; subst h2; exact .str _ _
 | 1,h1,h2=>simp at h1 h2; subst h1; subst h2; exact .str _ _
 | 2,h1,h2=>simp at h1 h2; subst h1; subst h2; exact .bool _ _
def QK (s:ByteArray):Option (List UInt8 × UInt8) :=
 if 4≤s.data.toList.length then match s.data.toList.drop (s.data.toList.length - 3) with
  | [x,d,y]=>if(y == 93 && x == 91 && decide (48≤d.toNat) && decide (d.toNat < 56) && IM ⟨(s.data.toList.take (s.data.toList.length - 3)).toArray⟩)=true then some (s.data.toList.take (s.data.toList.length - 3),d) else none
  | _=>none
 else none
def elemV (o:Option (List UInt8 × UInt8)):AV:=match o with
 | some (a,d) => .tup [.str ⟨a.toArray⟩,.int .i64 ((d.toNat:Int) - 48),.bool true]
 | none => .tup [.str ⟨#[]⟩,.int .i64 0,.bool false]
theorem ARP {l:List UInt8}(h:IM ⟨l.toArray⟩=true):l≠[]∧∀ b∈l,b≠91:=by
 have hw:UG ⟨l.toArray⟩=true:=by
  unfold IM at h
  exact(Bool.and_eq_true_iff.1 (Bool.and_eq_true_iff.1 h).1).1
 unfold UG at hw
 obtain⟨h1,h2⟩:=Bool.and_eq_true_iff.1 hw
 refine⟨?_,?_⟩
 ·intro e; subst e; cases h1
 ·intro b hb e
  subst e
  have:=List.all_eq_true.1 h2 91 hb
  revert this; decide
theorem three {l:List UInt8}(h:3≤l.length) : ∃ a x d y,l=a++[x,d,y]:=by
 refine⟨l.take (l.length - 3),?_⟩
 have h1:(l.drop (l.length - 3)).length=3:=by simp; omega
 match hm:l.drop (l.length - 3),h1 with
 | [x,d,y],_=>exact⟨x,d,y,by rw[← hm,List.take_append_drop]⟩
theorem AFN {a:List UInt8}{x d y:UInt8}(ha:a≠[]):QK ⟨(a++[x,d,y]).toArray⟩=if(y == 93 && x == 91 && decide (48≤d.toNat) && decide (d.toNat < 56) && IM ⟨a.toArray⟩)=true then some (a,d) else none:=by
 have hl:0 < a.length:=List.length_pos_iff.2 ha
 unfold QK
 simp only
 rw[if_pos (by simp; omega)]
 have e:(a++[x,d,y]).length - 3=a.length:=by simp
 rw[e,List.drop_left,List.take_left]
theorem AXX (s:ByteArray):QK s=if((Lib.cut s.data.toList [91]).2.2 && IM ⟨(Lib.cut s.data.toList [91]).1.toArray⟩)=true then match (Lib.cut s.data.toList [91]).2.1 with
  | [d,y]=>if(y == 93 && decide (48≤d.toNat) && decide (d.toNat < 56))=true then some ((Lib.cut s.data.toList [91]).1,d) else none
  | _=>none
 else none:=by
 obtain⟨⟨l⟩⟩:=s
 have hocc : ∀ i,Lib.occAt l [91] i=true↔l[i]? = some 91:=by
  intro i
  unfold Lib.occAt
  rcases Nat.lt_or_ge i l.length with h | h
  ·rw[zK h,jS h]
   simp [List.isPrefixOf]
   exact eq_comm
  ·rw[List.drop_eq_nil_of_le h,List.getElem?_eq_none h]; simp [List.isPrefixOf]
 -- an element name of the reference's kind
 have main : ∀ a d,a≠[]→IM ⟨a.toArray⟩=true→l=a++[91,d,93]→Lib.cut l [91]=(a,[d,93],true):=by
  intro a d ha hn hl
  obtain⟨_,hne⟩:=ARP hn
  have hi:Lib.index l [91]=(a.length:Int):=by
   refine Lib.index_first (by rw[hl]; simp) ((hocc _).2 (by rw[hl]; simp)) fun j hj => ?_
   rw[← Bool.not_eq_true,hocc,hl,List.getElem?_append_left hj,jS hj]
   intro e
   exact hne _ (List.getElem_mem hj) (Option.some.inj e)
  unfold Lib.cut
  rw[hi,if_pos (by omega),qV,hl,List.take_left,← List.drop_drop,List.drop_left]
  rfl
 show QK ⟨l.toArray⟩=_
 rcases hcase:QK ⟨l.toArray⟩ with _ | ⟨a,d⟩
 ·symm
  show(if _ then _ else none)=none
  simp only
  split
  ·rename_i hb
   rw[jX] at hb
   split
   ·rename_i d y hm
    split
    ·rename_i hd
     exfalso
     simp only[jX,beq_iff_eq,decide_eq_true_eq] at hd
     obtain⟨⟨rfl,hd1⟩,hd2⟩:=hd
     obtain⟨ha,_⟩:=ARP hb.2
     have hc:Lib.cut l [91]=((Lib.cut l [91]).1,[d,93],true):=by
      rw[← hm]; have:=hb.1; cases hcc:Lib.cut l [91] with
      | mk p q=>cases q with
        | mk q1 q2=>rw[hcc] at this; simp at this; subst this; rfl
     have hl:l=(Lib.cut l [91]).1++[91,d,93]:=by
      generalize (Lib.cut l [91]).1=b at hc
      unfold Lib.cut at hc
      split at hc
      ·rename_i h0
       obtain⟨i,hi⟩ : ∃ i:Nat,Lib.index l [91]=i:=⟨(Lib.index l [91]).toNat,by omega⟩
       rw[hi] at hc
       simp only[qV,Prod.mk.injEq,List.length_singleton] at hc
       rcases Lib.index_spec l [91] with⟨h1,_⟩ | ⟨j,h1,_,h3,_⟩
       ·omega
       ·have hj:i=j:=by omega
        subst hj
        have h4:=(hocc i).1 h3
        have h5:i < l.length:=(List.getElem?_eq_some_iff.1 h4).1
        have h6:l[i]=91:=by rw[jS h5] at h4; exact Option.some.inj h4
        rw[← hc.1]
        calc l=l.take i++l.drop i:=(List.take_append_drop i l).symm
         _=l.take i++(l[i] :: l.drop (i+1)):=by rw[zK h5]
         _=l.take i++[91,d,93]:=by rw[h6,hc.2.1]
      ·simp at hc
     have:=AFN (x:=91) (d:=d) (y:=93) ha
     rw[← hl,hcase,if_pos (by simp [hb.2,hd1,hd2])] at this
     cases this
    ·rfl
   ·rfl
  ·rfl
 ·have h4:4≤l.length:=by
   unfold QK at hcase
   simp only at hcase
   split at hcase
   ·assumption
   ·cases hcase
  obtain⟨b,x,d',y,rfl⟩:=three (show 3≤l.length by omega)
  have hb:b≠[]:=by intro e; subst e; simp at h4
  rw[AFN hb] at hcase
  split at hcase
  ·rename_i hc
   cases hcase
   simp only[jX,beq_iff_eq,decide_eq_true_eq] at hc
   obtain⟨⟨⟨⟨rfl,rfl⟩,h1⟩,h2⟩,h3⟩:=hc
   simp only
   rw[main a d hb h3 rfl]
   simp [h3,h1,h2]
  ·cases hcase
end Go.Proofs.YtfpagfhhhlljjaaGreatDoor.Cov
