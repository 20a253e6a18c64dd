/- Part 17 of the proof (O18); no condition. -/
import Derived.Test.YtfpagfhhhlljjaaGreatDoorYA16
set_option linter.unusedVariables false
set_option linter.unusedSimpArgs false
set_option maxRecDepth 8000
namespace Go.Proofs.YtfpagfhhhlljjaaGreatDoor.Ho
open Sm Bins Cov Go.RowKit
open Bool renaming not_false→jC
open Nat renaming le_of_ble_eq_true→jI,reduceEqDiff→jB,add_zero→jK,zero_add→jG
open Option renaming getD_some→jA
section
variable (G:Nat→AV)
theorem AI4 (m:Mo) (x:Hl) (hc:x.cross=true) (i:Nat) (hi:i < m.crs.length) (hz:x.idx=(i:Int)) (h:Hp):PCall (En G) 32 [.agg (D8 m),.agg (GG x)] h (.sl m.crs[i].pm 1 (m.crs[i].pts.map qencI)):=by
 refine ACalls.pure0 rfl ?_
 refine acN Tryz.func32 rfl ?_
 show awp _ _ _ _ _ (EJ _ [.tmp 4] _)
 have t:=Hb.mk' h m x
 simp -implicitDefEqProofs only [BC,A8,BA,AY,BB,AO,AQ,AL,BD,AX,AC,AA,AZ,AU,H9,A7,FD,BN,BJ,BU,AB,BF,BP,↓reduceIte,jB,jK,jA,jC,enP,RU,bxM,bxH]
 generalize h ++ [ABlk.live 2 [D8 m]] ++ [ABlk.live 3 [GG x]]=H at t ⊢
 generalize (h ++ [ABlk.live 2 [D8 m]]).length=hb at t ⊢
 have l0:=AGQ t.gh
 have l1:=YB t.gh
 rw [hc] at l0
 rw [hz] at l1
 simp -implicitDefEqProofs only [BC,A8,BK,BI,BA,CQ,CJ,DT,AY,BB,AO,AQ,AL,BD,AX,AC,AA,AZ,A7,BN,BJ,BZ,AB,↓reduceIte,jB,jG,jA,jC,enP,PE,IW,KG,JD,l0,l1,RI t.gm,DF hi,CX LQ hi,OT]
 exact ⟨by first | exact True.intro | exact rfl,t.hx⟩
theorem AI3 (m:Mo) (x:Hl) (hc:x.cross=false) (h:Hp):PCall (En G) 32 [.agg (D8 m),.agg (GG x)] h (.sl .full 1 ([x.idx].map qencI)):=by
 refine ACalls.pure0 rfl ?_
 refine acN Tryz.func32 rfl ?_
 show awp _ _ _ _ _ (EJ _ [.tmp 4] _)
 have t:=Hb.mk' h m x
 simp -implicitDefEqProofs only [BC,A8,BA,AY,BB,AO,AQ,AL,BD,AX,AC,AA,AZ,AU,H9,A7,FD,BN,BJ,BU,AB,BF,BP,List.map_cons,List.map_nil,↓reduceIte,jB,jK,jA,jC,enP,RU,bxM,bxH]
 generalize h ++ [ABlk.live 2 [D8 m]] ++ [ABlk.live 3 [GG x]]=H at t ⊢
 generalize (h ++ [ABlk.live 2 [D8 m]]).length=hb at t ⊢
 have l0:=AGQ t.gh
 rw [hc] at l0
 simp -implicitDefEqProofs only [FU,FQ,BC,A8,BO,BK,BI,BA,CJ,D5,AY,BB,AO,AQ,AL,BD,AX,AC,AA,AZ,A7,EK,BN,BJ,BU,AB,↓reduceIte,jB,jG,jA,jC,enP,KG,l0,YB t.gh,AM9]
 exact ⟨by first | exact True.intro | exact rfl,t.hx⟩
end
end Go.Proofs.YtfpagfhhhlljjaaGreatDoor.Ho
