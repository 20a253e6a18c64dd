/-
  DERIVED. GIVEN WITH THE SEED: THE CARDS: each row of YtfpagfhhhlljjaaGreatDoorRows.lean that lists a variable, with what it lists TIED to the program's text (the seventh form; the later family's looks); each row that meets fmt, with fmt's text TOLD by the authors' own Lean function (tested against real Go, not proved from fmt's source: count such statements apart). THE CARD IS WHAT COUNTS. Prove the row's statement (the work); the ties are given (YtfpagfhhhlljjaaGreatDoorTie.lean); close each card by the builder's one call (the guide's Derived/Test/ToyasCard.lean, 'card_holds'). Laid BY PROGRAM, IN A SANDBOX (cutbox-door.mjs). By AI agents, Wed Nov 11 2026. No macro, syntax, notation, axiom, sorry.
-/
import Derived.Test.YtfpagfhhhlljjaaGreatDoorRows
import GoSem.ClaimSeven
namespace Go.Proofs.YtfpagfhhhlljjaaGreatDoor
namespace Rows

/-- THE TIED CARD OF 'testbenchlaw50.HoleChecks'. -/
def holeChecksCard : Claim7 := { stood := { row := holeChecksRow, standIns := [], harness := (true, "293fb76002cd2ef40baee9deaffbbbd675f30d06013211557946c90f83696298"), looks := false }, kinds := [], alts := [], laidByText := true, laidKinds := [.widerDeep], laidTests := true, laidLooks := .later }
def HoleChecksCardSaid : Prop := Claim7.holds Tryz.pinned (.plain (OpenSpec.ofChange holeChecksSpec)) holeChecksCard

/-- THE TIED CARD OF 'testbenchlaw50.HoleConditions'. -/
def holeConditionsCard : Claim7 := { stood := { row := holeConditionsRow, standIns := [], harness := (true, "293fb76002cd2ef40baee9deaffbbbd675f30d06013211557946c90f83696298"), looks := false }, kinds := [], alts := [], laidByText := true, laidKinds := [.widerDeep], laidTests := true, laidLooks := .later }
def HoleConditionsCardSaid : Prop := Claim7.holds Tryz.pinned (.plain (OpenSpec.ofChange holeConditionsSpec)) holeConditionsCard

/-- THE TIED CARD OF 'testbenchlaw50.HoleTells'. -/
def holeTellsCard : Claim7 := { stood := { row := holeTellsRow, standIns := [], harness := (true, "293fb76002cd2ef40baee9deaffbbbd675f30d06013211557946c90f83696298"), looks := false }, kinds := [], alts := [], laidByText := true, laidKinds := [.widerDeep], laidTests := true, laidLooks := .later }
def HoleTellsCardSaid : Prop := Claim7.holds Tryz.pinned (.plain (OpenSpec.ofChange holeTellsSpec)) holeTellsCard

/-- THE TIED CARD OF 'testbenchlaw50.HoleHits'. -/
def holeHitsCard : Claim7 := { stood := { row := holeHitsRow, standIns := [], harness := (true, "293fb76002cd2ef40baee9deaffbbbd675f30d06013211557946c90f83696298"), looks := false }, kinds := [], alts := [], laidByText := true, laidKinds := [.widerDeep], laidTests := true, laidLooks := .later }
def HoleHitsCardSaid : Prop := Claim7.holds Tryz.pinned (.plain (OpenSpec.ofChange holeHitsSpec)) holeHitsCard

/-- THE TIED CARD OF 'testbenchlaw50.HoleNeeds'. -/
def holeNeedsCard : Claim7 := { stood := { row := holeNeedsRow, standIns := [], harness := (true, "293fb76002cd2ef40baee9deaffbbbd675f30d06013211557946c90f83696298"), looks := false }, kinds := [], alts := [], laidByText := true, laidKinds := [.widerDeep], laidTests := true, laidLooks := .later }
def HoleNeedsCardSaid : Prop := Claim7.holds Tryz.pinned (.plain (OpenSpec.ofChange holeNeedsSpec)) holeNeedsCard

/-- THE TIED CARD OF 'testbenchlaw50.HoleNames'. -/
def holeNamesCard : Claim7 := { stood := { row := holeNamesRow, standIns := [], harness := (true, "293fb76002cd2ef40baee9deaffbbbd675f30d06013211557946c90f83696298"), looks := false }, kinds := [], alts := [], laidByText := true, laidKinds := [.widerDeep], laidTests := true, laidLooks := .later }
def HoleNamesCardSaid : Prop := Claim7.holds Tryz.pinned (.plain (OpenSpec.ofChange holeNamesSpec)) holeNamesCard

/-- THE SECOND FORM's CARD OF 'testbenchlaw50.HoleChecks'. -/
def holeChecksUptoCard : Claim7 := { stood := { row := holeChecksUptoRow, standIns := [], harness := (true, "293fb76002cd2ef40baee9deaffbbbd675f30d06013211557946c90f83696298"), looks := false }, kinds := [], alts := [], laidByText := true, laidKinds := [.widerDeep], laidTests := true, laidLooks := .later }
def HoleChecksUptoCardSaid : Prop := Claim7.holds Tryz.pinned (.plain (OpenSpec.upto holeChecksSpec)) holeChecksUptoCard

/-- THE SECOND FORM's CARD OF 'testbenchlaw50.HoleConditions'. -/
def holeConditionsUptoCard : Claim7 := { stood := { row := holeConditionsUptoRow, standIns := [], harness := (true, "293fb76002cd2ef40baee9deaffbbbd675f30d06013211557946c90f83696298"), looks := false }, kinds := [], alts := [], laidByText := true, laidKinds := [.widerDeep], laidTests := true, laidLooks := .later }
def HoleConditionsUptoCardSaid : Prop := Claim7.holds Tryz.pinned (.plain (OpenSpec.upto holeConditionsSpec)) holeConditionsUptoCard

/-- THE SECOND FORM's CARD OF 'testbenchlaw50.HoleTells'. -/
def holeTellsUptoCard : Claim7 := { stood := { row := holeTellsUptoRow, standIns := [], harness := (true, "293fb76002cd2ef40baee9deaffbbbd675f30d06013211557946c90f83696298"), looks := false }, kinds := [], alts := [], laidByText := true, laidKinds := [.widerDeep], laidTests := true, laidLooks := .later }
def HoleTellsUptoCardSaid : Prop := Claim7.holds Tryz.pinned (.plain (OpenSpec.upto holeTellsSpec)) holeTellsUptoCard

/-- THE SECOND FORM's CARD OF 'testbenchlaw50.HoleHits'. -/
def holeHitsUptoCard : Claim7 := { stood := { row := holeHitsUptoRow, standIns := [], harness := (true, "293fb76002cd2ef40baee9deaffbbbd675f30d06013211557946c90f83696298"), looks := false }, kinds := [], alts := [], laidByText := true, laidKinds := [.widerDeep], laidTests := true, laidLooks := .later }
def HoleHitsUptoCardSaid : Prop := Claim7.holds Tryz.pinned (.plain (OpenSpec.upto holeHitsSpec)) holeHitsUptoCard

/-- THE SECOND FORM's CARD OF 'testbenchlaw50.HoleNeeds'. -/
def holeNeedsUptoCard : Claim7 := { stood := { row := holeNeedsUptoRow, standIns := [], harness := (true, "293fb76002cd2ef40baee9deaffbbbd675f30d06013211557946c90f83696298"), looks := false }, kinds := [], alts := [], laidByText := true, laidKinds := [.widerDeep], laidTests := true, laidLooks := .later }
def HoleNeedsUptoCardSaid : Prop := Claim7.holds Tryz.pinned (.plain (OpenSpec.upto holeNeedsSpec)) holeNeedsUptoCard

/-- THE SECOND FORM's CARD OF 'testbenchlaw50.HoleNames'. -/
def holeNamesUptoCard : Claim7 := { stood := { row := holeNamesUptoRow, standIns := [], harness := (true, "293fb76002cd2ef40baee9deaffbbbd675f30d06013211557946c90f83696298"), looks := false }, kinds := [], alts := [], laidByText := true, laidKinds := [.widerDeep], laidTests := true, laidLooks := .later }
def HoleNamesUptoCardSaid : Prop := Claim7.holds Tryz.pinned (.plain (OpenSpec.upto holeNamesSpec)) holeNamesUptoCard
end Rows
end Go.Proofs.YtfpagfhhhlljjaaGreatDoor
