/-
  DERIVED. GIVEN WITH THE SEED: THE CARDS: each row of YtgnoolgeijmlaaaGreatDoorRows.lean that lists a variable, with what it lists TIED to the program's text (the seventh form; the later family's looks); each row that meets fmt, with fmt's text TOLD by the authors' own Lean function (tested against real Go, not proved from fmt's source: count such statements apart). THE CARD IS WHAT COUNTS. Prove the row's statement (the work); the ties are given (YtgnoolgeijmlaaaGreatDoorTie.lean); close each card by the builder's one call (the guide's Derived/Test/ToyasCard.lean, 'card_holds'). Laid BY PROGRAM, IN A SANDBOX (cutbox-door.mjs). By AI agents, Wed Nov 11 2026. No macro, syntax, notation, axiom, sorry.
-/
import Derived.Test.YtgnoolgeijmlaaaGreatDoorRows
import GoSem.ClaimSeven
namespace Go.Proofs.YtgnoolgeijmlaaaGreatDoor
namespace Rows

/-- THE TIED CARD OF 'testbenchlaw16.BlastLevels'. -/
def blastLevelsCard : Claim7 := { stood := { row := blastLevelsRow, standIns := [], harness := (true, "7b43b3526c81ca7dcc89c19b930a8db65042152fca4717b654ee839992acae48"), looks := true }, kinds := [], alts := [], laidByText := true, laidKinds := [.data, .data, .data, .widerDeep], laidTests := true, laidLooks := .later }
def BlastLevelsCardSaid : Prop := Claim7.holds Tryz.pinned (.plain (OpenSpec.ofChange blastLevelsSpec)) blastLevelsCard

/-- THE TIED CARD OF 'testbenchlaw16.BlastTruths'. -/
def blastTruthsCard : Claim7 := { stood := { row := blastTruthsRow, standIns := [], harness := (true, "7b43b3526c81ca7dcc89c19b930a8db65042152fca4717b654ee839992acae48"), looks := true }, kinds := [], alts := [], laidByText := true, laidKinds := [.data, .data, .data, .widerDeep], laidTests := true, laidLooks := .later }
def BlastTruthsCardSaid : Prop := Claim7.holds Tryz.pinned (.plain (OpenSpec.ofChange blastTruthsSpec)) blastTruthsCard

/-- THE TIED CARD OF 'testbenchlaw16.BlastConjunctions'. -/
def blastConjunctionsCard : Claim7 := { stood := { row := blastConjunctionsRow, standIns := [], harness := (true, "7b43b3526c81ca7dcc89c19b930a8db65042152fca4717b654ee839992acae48"), looks := true }, kinds := [], alts := [], laidByText := true, laidKinds := [.data, .data, .data, .widerDeep], laidTests := true, laidLooks := .later }
def BlastConjunctionsCardSaid : Prop := Claim7.holds Tryz.pinned (.plain (OpenSpec.ofChange blastConjunctionsSpec)) blastConjunctionsCard

/-- THE TIED CARD OF 'testbenchlaw16.BlastWords'. -/
def blastWordsCard : Claim7 := { stood := { row := blastWordsRow, standIns := [], harness := (true, "7b43b3526c81ca7dcc89c19b930a8db65042152fca4717b654ee839992acae48"), looks := true }, kinds := [], alts := [], laidByText := true, laidKinds := [.data, .data, .data, .widerDeep], laidTests := true, laidLooks := .later }
def BlastWordsCardSaid : Prop := Claim7.holds Tryz.pinned (.plain (OpenSpec.ofChange blastWordsSpec)) blastWordsCard

/-- THE TIED CARD OF 'testbenchlaw16.BlastAgrees'. -/
def blastAgreesCard : Claim7 := { stood := { row := blastAgreesRow, standIns := [], harness := (true, "7b43b3526c81ca7dcc89c19b930a8db65042152fca4717b654ee839992acae48"), looks := true }, kinds := [], alts := [], laidByText := true, laidKinds := [.data, .data, .data, .widerDeep], laidTests := true, laidLooks := .later }
def BlastAgreesCardSaid : Prop := Claim7.holds Tryz.pinned (.plain (OpenSpec.ofChange blastAgreesSpec)) blastAgreesCard

/-- THE TIED CARD OF 'testbenchlaw16.BlastExtends'. -/
def blastExtendsCard : Claim7 := { stood := { row := blastExtendsRow, standIns := [], harness := (true, "7b43b3526c81ca7dcc89c19b930a8db65042152fca4717b654ee839992acae48"), looks := true }, kinds := [], alts := [], laidByText := true, laidKinds := [.data, .data, .data, .widerDeep], laidTests := true, laidLooks := .later }
def BlastExtendsCardSaid : Prop := Claim7.holds Tryz.pinned (.plain (OpenSpec.ofChange blastExtendsSpec)) blastExtendsCard

/-- THE TIED CARD OF 'testbenchlaw16.BlastEqual'. -/
def blastEqualCard : Claim7 := { stood := { row := blastEqualRow, standIns := [], harness := (true, "7b43b3526c81ca7dcc89c19b930a8db65042152fca4717b654ee839992acae48"), looks := true }, kinds := [], alts := [], laidByText := true, laidKinds := [.data, .data, .data, .widerDeep], laidTests := true, laidLooks := .later }
def BlastEqualCardSaid : Prop := Claim7.holds Tryz.pinned (.plain (OpenSpec.ofChange blastEqualSpec)) blastEqualCard

/-- THE SECOND FORM's CARD OF 'testbenchlaw16.BlastLevels'. -/
def blastLevelsUptoCard : Claim7 := { stood := { row := blastLevelsUptoRow, standIns := [], harness := (true, "7b43b3526c81ca7dcc89c19b930a8db65042152fca4717b654ee839992acae48"), looks := true }, kinds := [], alts := [], laidByText := true, laidKinds := [.data, .data, .data, .widerDeep], laidTests := true, laidLooks := .later }
def BlastLevelsUptoCardSaid : Prop := Claim7.holds Tryz.pinned (.plain (OpenSpec.upto blastLevelsSpec)) blastLevelsUptoCard

/-- THE SECOND FORM's CARD OF 'testbenchlaw16.BlastTruths'. -/
def blastTruthsUptoCard : Claim7 := { stood := { row := blastTruthsUptoRow, standIns := [], harness := (true, "7b43b3526c81ca7dcc89c19b930a8db65042152fca4717b654ee839992acae48"), looks := true }, kinds := [], alts := [], laidByText := true, laidKinds := [.data, .data, .data, .widerDeep], laidTests := true, laidLooks := .later }
def BlastTruthsUptoCardSaid : Prop := Claim7.holds Tryz.pinned (.plain (OpenSpec.upto blastTruthsSpec)) blastTruthsUptoCard

/-- THE SECOND FORM's CARD OF 'testbenchlaw16.BlastConjunctions'. -/
def blastConjunctionsUptoCard : Claim7 := { stood := { row := blastConjunctionsUptoRow, standIns := [], harness := (true, "7b43b3526c81ca7dcc89c19b930a8db65042152fca4717b654ee839992acae48"), looks := true }, kinds := [], alts := [], laidByText := true, laidKinds := [.data, .data, .data, .widerDeep], laidTests := true, laidLooks := .later }
def BlastConjunctionsUptoCardSaid : Prop := Claim7.holds Tryz.pinned (.plain (OpenSpec.upto blastConjunctionsSpec)) blastConjunctionsUptoCard

/-- THE SECOND FORM's CARD OF 'testbenchlaw16.BlastWords'. -/
def blastWordsUptoCard : Claim7 := { stood := { row := blastWordsUptoRow, standIns := [], harness := (true, "7b43b3526c81ca7dcc89c19b930a8db65042152fca4717b654ee839992acae48"), looks := true }, kinds := [], alts := [], laidByText := true, laidKinds := [.data, .data, .data, .widerDeep], laidTests := true, laidLooks := .later }
def BlastWordsUptoCardSaid : Prop := Claim7.holds Tryz.pinned (.plain (OpenSpec.upto blastWordsSpec)) blastWordsUptoCard

/-- THE SECOND FORM's CARD OF 'testbenchlaw16.BlastAgrees'. -/
def blastAgreesUptoCard : Claim7 := { stood := { row := blastAgreesUptoRow, standIns := [], harness := (true, "7b43b3526c81ca7dcc89c19b930a8db65042152fca4717b654ee839992acae48"), looks := true }, kinds := [], alts := [], laidByText := true, laidKinds := [.data, .data, .data, .widerDeep], laidTests := true, laidLooks := .later }
def BlastAgreesUptoCardSaid : Prop := Claim7.holds Tryz.pinned (.plain (OpenSpec.upto blastAgreesSpec)) blastAgreesUptoCard

/-- THE SECOND FORM's CARD OF 'testbenchlaw16.BlastExtends'. -/
def blastExtendsUptoCard : Claim7 := { stood := { row := blastExtendsUptoRow, standIns := [], harness := (true, "7b43b3526c81ca7dcc89c19b930a8db65042152fca4717b654ee839992acae48"), looks := true }, kinds := [], alts := [], laidByText := true, laidKinds := [.data, .data, .data, .widerDeep], laidTests := true, laidLooks := .later }
def BlastExtendsUptoCardSaid : Prop := Claim7.holds Tryz.pinned (.plain (OpenSpec.upto blastExtendsSpec)) blastExtendsUptoCard

/-- THE SECOND FORM's CARD OF 'testbenchlaw16.BlastEqual'. -/
def blastEqualUptoCard : Claim7 := { stood := { row := blastEqualUptoRow, standIns := [], harness := (true, "7b43b3526c81ca7dcc89c19b930a8db65042152fca4717b654ee839992acae48"), looks := true }, kinds := [], alts := [], laidByText := true, laidKinds := [.data, .data, .data, .widerDeep], laidTests := true, laidLooks := .later }
def BlastEqualUptoCardSaid : Prop := Claim7.holds Tryz.pinned (.plain (OpenSpec.upto blastEqualSpec)) blastEqualUptoCard
end Rows
end Go.Proofs.YtgnoolgeijmlaaaGreatDoor
