/-
  DERIVED. GIVEN WITH THE SEED: THE CARDS: each row of YtpdohkcjhphibaaDoorRows.lean that lists a variable, with what it lists TIED to the program's text (the seventh form; the later family's looks); each row that meets fmt, with fmt's text TOLD by the authors' own Lean function (tested against real Go, not proved from fmt's source: count such statements apart). THE CARD IS WHAT COUNTS. Prove the row's statement (the work); the ties are given (YtpdohkcjhphibaaDoorTie.lean); close each card by the builder's one call (the guide's Derived/Test/ToyasCard.lean, 'card_holds'). Laid BY PROGRAM, IN A SANDBOX (cutbox-door.mjs). By AI agents, Wed Nov 11 2026. No macro, syntax, notation, axiom, sorry.
-/
import Derived.Test.YtpdohkcjhphibaaDoorRows
import GoSem.ClaimSeven
namespace Go.Proofs.YtpdohkcjhphibaaDoor
namespace Rows

/-- THE TIED CARD OF 'testbenchlaw45.BinsRanges'. -/
def binsRangesCard : Claim7 := { stood := { row := binsRangesRow, standIns := [], harness := (true, "7ac38415f8f3d3722fc577dbfba9a7aa7a1f79fc6f1edc7da7350bd8c003890a"), looks := false }, kinds := [], alts := [], laidByText := true, laidKinds := [.data, .data, .data, .widerDeep], laidTests := true, laidLooks := .later }
def BinsRangesCardSaid : Prop := Claim7.holds Tryd.pinned (.plain (OpenSpec.ofChange binsRangesSpec)) binsRangesCard

/-- THE TIED CARD OF 'testbenchlaw45.BinsHits'. -/
def binsHitsCard : Claim7 := { stood := { row := binsHitsRow, standIns := [], harness := (true, "7ac38415f8f3d3722fc577dbfba9a7aa7a1f79fc6f1edc7da7350bd8c003890a"), looks := false }, kinds := [], alts := [], laidByText := true, laidKinds := [.data, .data, .data, .widerDeep], laidTests := true, laidLooks := .later }
def BinsHitsCardSaid : Prop := Claim7.holds Tryd.pinned (.plain (OpenSpec.ofChange binsHitsSpec)) binsHitsCard

/-- THE TIED CARD OF 'testbenchlaw45.BinsNormal'. -/
def binsNormalCard : Claim7 := { stood := { row := binsNormalRow, standIns := [], harness := (true, "7ac38415f8f3d3722fc577dbfba9a7aa7a1f79fc6f1edc7da7350bd8c003890a"), looks := false }, kinds := [], alts := [], laidByText := true, laidKinds := [.data, .data, .data, .widerDeep], laidTests := true, laidLooks := .later }
def BinsNormalCardSaid : Prop := Claim7.holds Tryd.pinned (.plain (OpenSpec.ofChange binsNormalSpec)) binsNormalCard

/-- THE TIED CARD OF 'testbenchlaw45.BinsValid'. -/
def binsValidCard : Claim7 := { stood := { row := binsValidRow, standIns := [], harness := (true, "7ac38415f8f3d3722fc577dbfba9a7aa7a1f79fc6f1edc7da7350bd8c003890a"), looks := false }, kinds := [], alts := [], laidByText := true, laidKinds := [.data, .data, .data, .widerDeep], laidTests := true, laidLooks := .later }
def BinsValidCardSaid : Prop := Claim7.holds Tryd.pinned (.plain (OpenSpec.ofChange binsValidSpec)) binsValidCard

/-- THE TIED CARD OF 'testbenchlaw45.BinsAuto'. -/
def binsAutoCard : Claim7 := { stood := { row := binsAutoRow, standIns := [], harness := (true, "7ac38415f8f3d3722fc577dbfba9a7aa7a1f79fc6f1edc7da7350bd8c003890a"), looks := false }, kinds := [], alts := [], laidByText := true, laidKinds := [.data, .data, .data, .widerDeep], laidTests := true, laidLooks := .later }
def BinsAutoCardSaid : Prop := Claim7.holds Tryd.pinned (.plain (OpenSpec.ofChange binsAutoSpec)) binsAutoCard

/-- THE TIED CARD OF 'testbenchlaw45.BinsOverlaps'. -/
def binsOverlapsCard : Claim7 := { stood := { row := binsOverlapsRow, standIns := [], harness := (true, "7ac38415f8f3d3722fc577dbfba9a7aa7a1f79fc6f1edc7da7350bd8c003890a"), looks := false }, kinds := [], alts := [], laidByText := true, laidKinds := [.data, .data, .data, .widerDeep], laidTests := true, laidLooks := .later }
def BinsOverlapsCardSaid : Prop := Claim7.holds Tryd.pinned (.plain (OpenSpec.ofChange binsOverlapsSpec)) binsOverlapsCard

/-- THE SECOND FORM's CARD OF 'testbenchlaw45.BinsRanges'. -/
def binsRangesUptoCard : Claim7 := { stood := { row := binsRangesUptoRow, standIns := [], harness := (true, "7ac38415f8f3d3722fc577dbfba9a7aa7a1f79fc6f1edc7da7350bd8c003890a"), looks := false }, kinds := [], alts := [], laidByText := true, laidKinds := [.data, .data, .data, .widerDeep], laidTests := true, laidLooks := .later }
def BinsRangesUptoCardSaid : Prop := Claim7.holds Tryd.pinned (.plain (OpenSpec.upto binsRangesSpec)) binsRangesUptoCard

/-- THE SECOND FORM's CARD OF 'testbenchlaw45.BinsHits'. -/
def binsHitsUptoCard : Claim7 := { stood := { row := binsHitsUptoRow, standIns := [], harness := (true, "7ac38415f8f3d3722fc577dbfba9a7aa7a1f79fc6f1edc7da7350bd8c003890a"), looks := false }, kinds := [], alts := [], laidByText := true, laidKinds := [.data, .data, .data, .widerDeep], laidTests := true, laidLooks := .later }
def BinsHitsUptoCardSaid : Prop := Claim7.holds Tryd.pinned (.plain (OpenSpec.upto binsHitsSpec)) binsHitsUptoCard

/-- THE SECOND FORM's CARD OF 'testbenchlaw45.BinsNormal'. -/
def binsNormalUptoCard : Claim7 := { stood := { row := binsNormalUptoRow, standIns := [], harness := (true, "7ac38415f8f3d3722fc577dbfba9a7aa7a1f79fc6f1edc7da7350bd8c003890a"), looks := false }, kinds := [], alts := [], laidByText := true, laidKinds := [.data, .data, .data, .widerDeep], laidTests := true, laidLooks := .later }
def BinsNormalUptoCardSaid : Prop := Claim7.holds Tryd.pinned (.plain (OpenSpec.upto binsNormalSpec)) binsNormalUptoCard

/-- THE SECOND FORM's CARD OF 'testbenchlaw45.BinsValid'. -/
def binsValidUptoCard : Claim7 := { stood := { row := binsValidUptoRow, standIns := [], harness := (true, "7ac38415f8f3d3722fc577dbfba9a7aa7a1f79fc6f1edc7da7350bd8c003890a"), looks := false }, kinds := [], alts := [], laidByText := true, laidKinds := [.data, .data, .data, .widerDeep], laidTests := true, laidLooks := .later }
def BinsValidUptoCardSaid : Prop := Claim7.holds Tryd.pinned (.plain (OpenSpec.upto binsValidSpec)) binsValidUptoCard

/-- THE SECOND FORM's CARD OF 'testbenchlaw45.BinsAuto'. -/
def binsAutoUptoCard : Claim7 := { stood := { row := binsAutoUptoRow, standIns := [], harness := (true, "7ac38415f8f3d3722fc577dbfba9a7aa7a1f79fc6f1edc7da7350bd8c003890a"), looks := false }, kinds := [], alts := [], laidByText := true, laidKinds := [.data, .data, .data, .widerDeep], laidTests := true, laidLooks := .later }
def BinsAutoUptoCardSaid : Prop := Claim7.holds Tryd.pinned (.plain (OpenSpec.upto binsAutoSpec)) binsAutoUptoCard

/-- THE SECOND FORM's CARD OF 'testbenchlaw45.BinsOverlaps'. -/
def binsOverlapsUptoCard : Claim7 := { stood := { row := binsOverlapsUptoRow, standIns := [], harness := (true, "7ac38415f8f3d3722fc577dbfba9a7aa7a1f79fc6f1edc7da7350bd8c003890a"), looks := false }, kinds := [], alts := [], laidByText := true, laidKinds := [.data, .data, .data, .widerDeep], laidTests := true, laidLooks := .later }
def BinsOverlapsUptoCardSaid : Prop := Claim7.holds Tryd.pinned (.plain (OpenSpec.upto binsOverlapsSpec)) binsOverlapsUptoCard
end Rows
end Go.Proofs.YtpdohkcjhphibaaDoor
