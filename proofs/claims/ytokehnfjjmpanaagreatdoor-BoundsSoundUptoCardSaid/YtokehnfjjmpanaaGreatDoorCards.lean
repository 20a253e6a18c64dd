/-
  DERIVED. GIVEN WITH THE SEED: THE CARDS: each row of YtokehnfjjmpanaaGreatDoorRows.lean that lists a variable, with what it lists TIED to the program's text (the seventh form; the later family's looks); each row that meets fmt, with fmt's text TOLD by the authors' own Lean function (tested against real Go, not proved from fmt's source: count such statements apart). THE CARD IS WHAT COUNTS. Prove the row's statement (the work); the ties are given (YtokehnfjjmpanaaGreatDoorTie.lean); close each card by the builder's one call (the guide's Derived/Test/ToyasCard.lean, 'card_holds'). Laid BY PROGRAM, IN A SANDBOX (cutbox-door.mjs). By AI agents, Wed Nov 11 2026. No macro, syntax, notation, axiom, sorry.
-/
import Derived.Test.YtokehnfjjmpanaaGreatDoorRows
import GoSem.ClaimSeven
namespace Go.Proofs.YtokehnfjjmpanaaGreatDoor
namespace Rows

/-- THE TIED CARD OF 'testbenchlaw19.BoundsStart'. -/
def boundsStartCard : Claim7 := { stood := { row := boundsStartRow, standIns := [], harness := (true, "0eaaf48afe0b2a5be8dc9584a1f2ecac2df4c580fb3f5ded26a4708b46caadf5"), looks := true }, kinds := [], alts := [], laidByText := true, laidKinds := [.data, .data, .data, .widerDeep], laidTests := true, laidLooks := .later }
def BoundsStartCardSaid : Prop := Claim7.holds Tryz.pinned (.plain (OpenSpec.ofChange boundsStartSpec)) boundsStartCard

/-- THE TIED CARD OF 'testbenchlaw19.BoundsNarrows'. -/
def boundsNarrowsCard : Claim7 := { stood := { row := boundsNarrowsRow, standIns := [], harness := (true, "0eaaf48afe0b2a5be8dc9584a1f2ecac2df4c580fb3f5ded26a4708b46caadf5"), looks := true }, kinds := [], alts := [], laidByText := true, laidKinds := [.data, .data, .data, .widerDeep], laidTests := true, laidLooks := .later }
def BoundsNarrowsCardSaid : Prop := Claim7.holds Tryz.pinned (.plain (OpenSpec.ofChange boundsNarrowsSpec)) boundsNarrowsCard

/-- THE TIED CARD OF 'testbenchlaw19.BoundsKeeps'. -/
def boundsKeepsCard : Claim7 := { stood := { row := boundsKeepsRow, standIns := [], harness := (true, "0eaaf48afe0b2a5be8dc9584a1f2ecac2df4c580fb3f5ded26a4708b46caadf5"), looks := true }, kinds := [], alts := [], laidByText := true, laidKinds := [.data, .data, .data, .widerDeep], laidTests := true, laidLooks := .later }
def BoundsKeepsCardSaid : Prop := Claim7.holds Tryz.pinned (.plain (OpenSpec.ofChange boundsKeepsSpec)) boundsKeepsCard

/-- THE TIED CARD OF 'testbenchlaw19.BoundsMonotone'. -/
def boundsMonotoneCard : Claim7 := { stood := { row := boundsMonotoneRow, standIns := [], harness := (true, "0eaaf48afe0b2a5be8dc9584a1f2ecac2df4c580fb3f5ded26a4708b46caadf5"), looks := true }, kinds := [], alts := [], laidByText := true, laidKinds := [.data, .data, .data, .widerDeep], laidTests := true, laidLooks := .later }
def BoundsMonotoneCardSaid : Prop := Claim7.holds Tryz.pinned (.plain (OpenSpec.ofChange boundsMonotoneSpec)) boundsMonotoneCard

/-- THE TIED CARD OF 'testbenchlaw19.BoundsFixed'. -/
def boundsFixedCard : Claim7 := { stood := { row := boundsFixedRow, standIns := [], harness := (true, "0eaaf48afe0b2a5be8dc9584a1f2ecac2df4c580fb3f5ded26a4708b46caadf5"), looks := true }, kinds := [], alts := [], laidByText := true, laidKinds := [.data, .data, .data, .widerDeep], laidTests := true, laidLooks := .later }
def BoundsFixedCardSaid : Prop := Claim7.holds Tryz.pinned (.plain (OpenSpec.ofChange boundsFixedSpec)) boundsFixedCard

/-- THE TIED CARD OF 'testbenchlaw19.BoundsRanges'. -/
def boundsRangesCard : Claim7 := { stood := { row := boundsRangesRow, standIns := [], harness := (true, "0eaaf48afe0b2a5be8dc9584a1f2ecac2df4c580fb3f5ded26a4708b46caadf5"), looks := true }, kinds := [], alts := [], laidByText := true, laidKinds := [.data, .data, .data, .widerDeep], laidTests := true, laidLooks := .later }
def BoundsRangesCardSaid : Prop := Claim7.holds Tryz.pinned (.plain (OpenSpec.ofChange boundsRangesSpec)) boundsRangesCard

/-- THE TIED CARD OF 'testbenchlaw19.BoundsSound'. -/
def boundsSoundCard : Claim7 := { stood := { row := boundsSoundRow, standIns := [], harness := (true, "0eaaf48afe0b2a5be8dc9584a1f2ecac2df4c580fb3f5ded26a4708b46caadf5"), looks := true }, kinds := [], alts := [], laidByText := true, laidKinds := [.data, .data, .data, .widerDeep], laidTests := true, laidLooks := .later }
def BoundsSoundCardSaid : Prop := Claim7.holds Tryz.pinned (.plain (OpenSpec.ofChange boundsSoundSpec)) boundsSoundCard

/-- THE SECOND FORM's CARD OF 'testbenchlaw19.BoundsStart'. -/
def boundsStartUptoCard : Claim7 := { stood := { row := boundsStartUptoRow, standIns := [], harness := (true, "0eaaf48afe0b2a5be8dc9584a1f2ecac2df4c580fb3f5ded26a4708b46caadf5"), looks := true }, kinds := [], alts := [], laidByText := true, laidKinds := [.data, .data, .data, .widerDeep], laidTests := true, laidLooks := .later }
def BoundsStartUptoCardSaid : Prop := Claim7.holds Tryz.pinned (.plain (OpenSpec.upto boundsStartSpec)) boundsStartUptoCard

/-- THE SECOND FORM's CARD OF 'testbenchlaw19.BoundsNarrows'. -/
def boundsNarrowsUptoCard : Claim7 := { stood := { row := boundsNarrowsUptoRow, standIns := [], harness := (true, "0eaaf48afe0b2a5be8dc9584a1f2ecac2df4c580fb3f5ded26a4708b46caadf5"), looks := true }, kinds := [], alts := [], laidByText := true, laidKinds := [.data, .data, .data, .widerDeep], laidTests := true, laidLooks := .later }
def BoundsNarrowsUptoCardSaid : Prop := Claim7.holds Tryz.pinned (.plain (OpenSpec.upto boundsNarrowsSpec)) boundsNarrowsUptoCard

/-- THE SECOND FORM's CARD OF 'testbenchlaw19.BoundsKeeps'. -/
def boundsKeepsUptoCard : Claim7 := { stood := { row := boundsKeepsUptoRow, standIns := [], harness := (true, "0eaaf48afe0b2a5be8dc9584a1f2ecac2df4c580fb3f5ded26a4708b46caadf5"), looks := true }, kinds := [], alts := [], laidByText := true, laidKinds := [.data, .data, .data, .widerDeep], laidTests := true, laidLooks := .later }
def BoundsKeepsUptoCardSaid : Prop := Claim7.holds Tryz.pinned (.plain (OpenSpec.upto boundsKeepsSpec)) boundsKeepsUptoCard

/-- THE SECOND FORM's CARD OF 'testbenchlaw19.BoundsMonotone'. -/
def boundsMonotoneUptoCard : Claim7 := { stood := { row := boundsMonotoneUptoRow, standIns := [], harness := (true, "0eaaf48afe0b2a5be8dc9584a1f2ecac2df4c580fb3f5ded26a4708b46caadf5"), looks := true }, kinds := [], alts := [], laidByText := true, laidKinds := [.data, .data, .data, .widerDeep], laidTests := true, laidLooks := .later }
def BoundsMonotoneUptoCardSaid : Prop := Claim7.holds Tryz.pinned (.plain (OpenSpec.upto boundsMonotoneSpec)) boundsMonotoneUptoCard

/-- THE SECOND FORM's CARD OF 'testbenchlaw19.BoundsFixed'. -/
def boundsFixedUptoCard : Claim7 := { stood := { row := boundsFixedUptoRow, standIns := [], harness := (true, "0eaaf48afe0b2a5be8dc9584a1f2ecac2df4c580fb3f5ded26a4708b46caadf5"), looks := true }, kinds := [], alts := [], laidByText := true, laidKinds := [.data, .data, .data, .widerDeep], laidTests := true, laidLooks := .later }
def BoundsFixedUptoCardSaid : Prop := Claim7.holds Tryz.pinned (.plain (OpenSpec.upto boundsFixedSpec)) boundsFixedUptoCard

/-- THE SECOND FORM's CARD OF 'testbenchlaw19.BoundsRanges'. -/
def boundsRangesUptoCard : Claim7 := { stood := { row := boundsRangesUptoRow, standIns := [], harness := (true, "0eaaf48afe0b2a5be8dc9584a1f2ecac2df4c580fb3f5ded26a4708b46caadf5"), looks := true }, kinds := [], alts := [], laidByText := true, laidKinds := [.data, .data, .data, .widerDeep], laidTests := true, laidLooks := .later }
def BoundsRangesUptoCardSaid : Prop := Claim7.holds Tryz.pinned (.plain (OpenSpec.upto boundsRangesSpec)) boundsRangesUptoCard

/-- THE SECOND FORM's CARD OF 'testbenchlaw19.BoundsSound'. -/
def boundsSoundUptoCard : Claim7 := { stood := { row := boundsSoundUptoRow, standIns := [], harness := (true, "0eaaf48afe0b2a5be8dc9584a1f2ecac2df4c580fb3f5ded26a4708b46caadf5"), looks := true }, kinds := [], alts := [], laidByText := true, laidKinds := [.data, .data, .data, .widerDeep], laidTests := true, laidLooks := .later }
def BoundsSoundUptoCardSaid : Prop := Claim7.holds Tryz.pinned (.plain (OpenSpec.upto boundsSoundSpec)) boundsSoundUptoCard
end Rows
end Go.Proofs.YtokehnfjjmpanaaGreatDoor
