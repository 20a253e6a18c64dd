/-
  DERIVED. GIVEN WITH THE SEED: THE CARDS: each row of YtiihpnicbekebaaGreatDoorRows.lean that lists a variable, with what it lists TIED to the program's text (the seventh form; the later family's looks); each row that meets fmt, with fmt's text TOLD by the authors' own Lean function (tested against real Go, not proved from fmt's source: count such statements apart). THE CARD IS WHAT COUNTS. Prove the row's statement (the work); the ties are given (YtiihpnicbekebaaGreatDoorTie.lean); close each card by the builder's one call (the guide's Derived/Test/ToyasCard.lean, 'card_holds'). Laid BY PROGRAM, IN A SANDBOX (cutbox-door.mjs). By AI agents, Wed Nov 11 2026. No macro, syntax, notation, axiom, sorry.
-/
import Derived.Test.YtiihpnicbekebaaGreatDoorRows
import GoSem.ClaimSeven
namespace Go.Proofs.YtiihpnicbekebaaGreatDoor
namespace Rows

/-- THE TIED CARD OF 'testbenchlaw51.ClosureReaches'. -/
def closureReachesCard : Claim7 := { stood := { row := closureReachesRow, standIns := [], harness := (true, "69a9c4dcbd51bc6d17331b68b757580419a89c9756d0b5ef0823b98693c45d0e"), looks := false }, kinds := [], alts := [], laidByText := true, laidKinds := [.data, .data, .data, .widerDeep], laidTests := true, laidLooks := .later }
def ClosureReachesCardSaid : Prop := Claim7.holds Tryz.pinned (.plain (OpenSpec.ofChange closureReachesSpec)) closureReachesCard

/-- THE TIED CARD OF 'testbenchlaw51.ClosurePlans'. -/
def closurePlansCard : Claim7 := { stood := { row := closurePlansRow, standIns := [], harness := (true, "69a9c4dcbd51bc6d17331b68b757580419a89c9756d0b5ef0823b98693c45d0e"), looks := false }, kinds := [], alts := [], laidByText := true, laidKinds := [.data, .data, .data, .widerDeep], laidTests := true, laidLooks := .later }
def ClosurePlansCardSaid : Prop := Claim7.holds Tryz.pinned (.plain (OpenSpec.ofChange closurePlansSpec)) closurePlansCard

/-- THE TIED CARD OF 'testbenchlaw51.ClosureDivides'. -/
def closureDividesCard : Claim7 := { stood := { row := closureDividesRow, standIns := [], harness := (true, "69a9c4dcbd51bc6d17331b68b757580419a89c9756d0b5ef0823b98693c45d0e"), looks := false }, kinds := [], alts := [], laidByText := true, laidKinds := [.data, .data, .data, .widerDeep], laidTests := true, laidLooks := .later }
def ClosureDividesCardSaid : Prop := Claim7.holds Tryz.pinned (.plain (OpenSpec.ofChange closureDividesSpec)) closureDividesCard

/-- THE TIED CARD OF 'testbenchlaw51.ClosureItems'. -/
def closureItemsCard : Claim7 := { stood := { row := closureItemsRow, standIns := [], harness := (true, "69a9c4dcbd51bc6d17331b68b757580419a89c9756d0b5ef0823b98693c45d0e"), looks := false }, kinds := [], alts := [], laidByText := true, laidKinds := [.data, .data, .data, .widerDeep], laidTests := true, laidLooks := .later }
def ClosureItemsCardSaid : Prop := Claim7.holds Tryz.pinned (.plain (OpenSpec.ofChange closureItemsSpec)) closureItemsCard

/-- THE TIED CARD OF 'testbenchlaw51.ClosureProves'. -/
def closureProvesCard : Claim7 := { stood := { row := closureProvesRow, standIns := [], harness := (true, "69a9c4dcbd51bc6d17331b68b757580419a89c9756d0b5ef0823b98693c45d0e"), looks := false }, kinds := [], alts := [], laidByText := true, laidKinds := [.data, .data, .data, .widerDeep], laidTests := true, laidLooks := .later }
def ClosureProvesCardSaid : Prop := Claim7.holds Tryz.pinned (.plain (OpenSpec.ofChange closureProvesSpec)) closureProvesCard

/-- THE TIED CARD OF 'testbenchlaw51.ClosureHits'. -/
def closureHitsCard : Claim7 := { stood := { row := closureHitsRow, standIns := [], harness := (true, "69a9c4dcbd51bc6d17331b68b757580419a89c9756d0b5ef0823b98693c45d0e"), looks := false }, kinds := [], alts := [], laidByText := true, laidKinds := [.data, .data, .data, .widerDeep], laidTests := true, laidLooks := .later }
def ClosureHitsCardSaid : Prop := Claim7.holds Tryz.pinned (.plain (OpenSpec.ofChange closureHitsSpec)) closureHitsCard

/-- THE SECOND FORM's CARD OF 'testbenchlaw51.ClosureReaches'. -/
def closureReachesUptoCard : Claim7 := { stood := { row := closureReachesUptoRow, standIns := [], harness := (true, "69a9c4dcbd51bc6d17331b68b757580419a89c9756d0b5ef0823b98693c45d0e"), looks := false }, kinds := [], alts := [], laidByText := true, laidKinds := [.data, .data, .data, .widerDeep], laidTests := true, laidLooks := .later }
def ClosureReachesUptoCardSaid : Prop := Claim7.holds Tryz.pinned (.plain (OpenSpec.upto closureReachesSpec)) closureReachesUptoCard

/-- THE SECOND FORM's CARD OF 'testbenchlaw51.ClosurePlans'. -/
def closurePlansUptoCard : Claim7 := { stood := { row := closurePlansUptoRow, standIns := [], harness := (true, "69a9c4dcbd51bc6d17331b68b757580419a89c9756d0b5ef0823b98693c45d0e"), looks := false }, kinds := [], alts := [], laidByText := true, laidKinds := [.data, .data, .data, .widerDeep], laidTests := true, laidLooks := .later }
def ClosurePlansUptoCardSaid : Prop := Claim7.holds Tryz.pinned (.plain (OpenSpec.upto closurePlansSpec)) closurePlansUptoCard

/-- THE SECOND FORM's CARD OF 'testbenchlaw51.ClosureDivides'. -/
def closureDividesUptoCard : Claim7 := { stood := { row := closureDividesUptoRow, standIns := [], harness := (true, "69a9c4dcbd51bc6d17331b68b757580419a89c9756d0b5ef0823b98693c45d0e"), looks := false }, kinds := [], alts := [], laidByText := true, laidKinds := [.data, .data, .data, .widerDeep], laidTests := true, laidLooks := .later }
def ClosureDividesUptoCardSaid : Prop := Claim7.holds Tryz.pinned (.plain (OpenSpec.upto closureDividesSpec)) closureDividesUptoCard

/-- THE SECOND FORM's CARD OF 'testbenchlaw51.ClosureItems'. -/
def closureItemsUptoCard : Claim7 := { stood := { row := closureItemsUptoRow, standIns := [], harness := (true, "69a9c4dcbd51bc6d17331b68b757580419a89c9756d0b5ef0823b98693c45d0e"), looks := false }, kinds := [], alts := [], laidByText := true, laidKinds := [.data, .data, .data, .widerDeep], laidTests := true, laidLooks := .later }
def ClosureItemsUptoCardSaid : Prop := Claim7.holds Tryz.pinned (.plain (OpenSpec.upto closureItemsSpec)) closureItemsUptoCard

/-- THE SECOND FORM's CARD OF 'testbenchlaw51.ClosureProves'. -/
def closureProvesUptoCard : Claim7 := { stood := { row := closureProvesUptoRow, standIns := [], harness := (true, "69a9c4dcbd51bc6d17331b68b757580419a89c9756d0b5ef0823b98693c45d0e"), looks := false }, kinds := [], alts := [], laidByText := true, laidKinds := [.data, .data, .data, .widerDeep], laidTests := true, laidLooks := .later }
def ClosureProvesUptoCardSaid : Prop := Claim7.holds Tryz.pinned (.plain (OpenSpec.upto closureProvesSpec)) closureProvesUptoCard

/-- THE SECOND FORM's CARD OF 'testbenchlaw51.ClosureHits'. -/
def closureHitsUptoCard : Claim7 := { stood := { row := closureHitsUptoRow, standIns := [], harness := (true, "69a9c4dcbd51bc6d17331b68b757580419a89c9756d0b5ef0823b98693c45d0e"), looks := false }, kinds := [], alts := [], laidByText := true, laidKinds := [.data, .data, .data, .widerDeep], laidTests := true, laidLooks := .later }
def ClosureHitsUptoCardSaid : Prop := Claim7.holds Tryz.pinned (.plain (OpenSpec.upto closureHitsSpec)) closureHitsUptoCard
end Rows
end Go.Proofs.YtiihpnicbekebaaGreatDoor
