/- Part 15 of the proof (Kc); no condition. -/
import Derived.Test.YtokehnfjjmpanaaGreatDoorYC14
set_option linter.unusedVariables false
namespace Go.Proofs.YtokehnfjjmpanaaGreatDoor.Cov
open Sm Bins Go.Proofs.YtokehnfjjmpanaaGreatDoor.Bd Go.RowKit
theorem A1S:Tryz.prog.cellsOf 41=1:=by kernel_rfl
theorem A2H:Tryz.prog.cellsOf 43=11:=by kernel_rfl
theorem A1O:Tryz.prog.cellsOf 55=1:=by kernel_rfl
def AYL (c:Cs) (b:Nat):Prop := ∃ b1 b2 b3 b4,b1+b2+b3+b4≤b∧AV6 c.p b1∧okE c.e b2∧c.l.length≤b3∧okL (fun z _=>0≤z∧z≤65535) c.at' b4
theorem A2G:Rd Tryz.prog 43 JQ AYL:=by
 intro n
 match n with
 | 0=>exact RdAt.zero
 | 1=>exact AEY Tryz.underlying43
 | n+2 =>
   have r4:RdAt Tryz.prog (n+1) 41 (fun x:SM × List Int => [.sl x.1 1 (x.2.map AJZ)]) (fun x b => ∃ b',b'+1≤b∧okL (fun z _=>0≤z∧z≤65535) x.2 b'):=NT Tryz.underlying41 A1O (by decide) (fun _=>rfl) (AVX Tryz.underlying55 n)
   refine RdAt.map (fun x:Pr × Ex × Rl × (SM × List Int) × Unit=>(⟨x.1,x.2.1,x.2.2.1.m,x.2.2.1.l,x.2.2.2.1.1,x.2.2.2.1.2⟩:Cs))
    (OG Tryz.underlying43 (H6 rfl A1V GZ (A05 _) (H6 rfl AWX EN (rdE _) (H6 rfl A1U (fun _=>rfl) (A04 _) (H6 rfl A1S (fun _=>rfl) r4 TA))))) (fun x=>by simp [JQ]) ?_
   rintro ⟨a,b,c,d,_⟩ N ⟨_,hN,b1,b2,hb,h1,b3,b4,hb2,h2,b5,b6,hb3,h3,b7,b8,hb4,h4,_⟩
   exact ⟨b1,b3,b5,b7,by omega,h1,h2,h3,TB h4⟩
theorem A0I {c:Cs} {b:Nat} (h:AYL c b) (hb:b≤1048576):CsS c:=by
 obtain ⟨b1,b2,b3,b4,h0,h1,h2,h3,h4⟩:=h
 have l4:=h4.length
 unfold okE at h2
 refine ⟨AV2 h1 (by omega),by omega,by omega,by omega,fun z hz => ?_⟩
 obtain ⟨b5,_,h5⟩:=h4.each z hz
 exact h5
end Go.Proofs.YtokehnfjjmpanaaGreatDoor.Cov
