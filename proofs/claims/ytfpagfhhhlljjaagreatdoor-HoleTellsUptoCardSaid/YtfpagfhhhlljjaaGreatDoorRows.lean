/-
  NARROWER THAN 'FOR EVERY INPUT', by the rows' own cells (each row's printed sentence says how): HoleChecks: loops, laid · HoleConditions: loops, laid · HoleTells: loops, laid · HoleHits: loops, laid · HoleNeeds: loops, laid · HoleNames: loops, laid.
  DERIVED. THE GIVEN ROWS OF THIS SEAT. 6 by the template 'for every input the law returns true; each argument reads behind the call as it read before'; 0 by the template 'total and deterministic' (their statements: YtfpagfhhhlljjaaGreatDoorTotals.lean).
  GIVEN WITH THE SEED: the statements are not yours to turn. If you find one false, say at which input.
  Laid BY PROGRAM, IN A SANDBOX (cutbox-rows.mjs): the forced cells as the released guide's own fill.sh prints them over the translation aa24f0f0a7b968e6… (all of the seat's roots in one cut). By AI agents, Wed Nov 11 2026. No macro, syntax, notation, axiom, sorry.
-/
import Derived.Test.YtfpagfhhhlljjaaGreatDoorChecked
import GoSem.Claim
import GoSem.ClaimJoined
import GoSem.ClaimMapViews
import Derived.JoinedTies
import Derived.KernelRfl
namespace Go.Proofs.YtfpagfhhhlljjaaGreatDoor
/- THE CELL 'sum', in the pinned program and in every row, IS THE sha256 OF THE DUMP (.gsa) THAT YtfpagfhhhlljjaaGreatDoorProg.lean LOADS. Nothing in Lean hashes anything: it is a label: what it is worth is what the hold of that sum in a sandbox is worth. -/
noncomputable def Tryz.pinned : Pinned := { name := "ytfpagfhhhlljjaagreatdoor", sum := "aa24f0f0a7b968e66858d05fa7d2765a4fa9a646222b70a1d8528e8556a90144", checked := Tryz.checked }
namespace Rows
def none {H : Type} : Left H := { results := [], args := [] }

/- WHAT THE LISTED PACKAGE-LEVEL VARIABLES READ AS WHEN THE CALL BEGINS. Each datum BY PROGRAM (the guide's laid-datum.mjs) off the statement by which the dump's own 'gosem.cut.vars' lays the variable. In a bare row this is a premise. The card (YtfpagfhhhlljjaaGreatDoorCards.lean) ties it to the program's text. -/
def laid_testbench_lexer_keywords {H : Type} : DataW H := .slice [.lit (.string [99, 108, 97, 115, 115]), .lit (.string [101, 120, 116, 101, 110, 100, 115]), .lit (.string [114, 97, 110, 100]), .lit (.string [114, 97, 110, 100, 99]), .lit (.string [115, 116, 97, 116, 101]), .lit (.string [99, 111, 110, 115, 116, 114, 97, 105, 110, 116]), .lit (.string [115, 111, 102, 116]), .lit (.string [100, 105, 115, 116]), .lit (.string [105, 102]), .lit (.string [101, 108, 115, 101]), .lit (.string [101, 97, 99, 104]), .lit (.string [105, 110]), .lit (.string [115, 111, 108, 118, 101]), .lit (.string [98, 101, 102, 111, 114, 101]), .lit (.string [105, 110, 115, 105, 100, 101]), .lit (.string [112, 114, 111, 112, 101, 114, 116, 121]), .lit (.string [115, 101, 113]), .lit (.string [97, 110, 100]), .lit (.string [111, 114]), .lit (.string [110, 111, 116]), .lit (.string [115, 101, 116]), .lit (.string [104, 111, 108, 100]), .lit (.string [112, 108, 97, 105, 110]), .lit (.string [114, 101, 112, 101, 97, 116])] []

/-- 'testbenchlaw50.HoleChecks': WHATEVER THE INPUT: true; the input reads as it did. -/
def holeChecksSpec : ChangeSpec := { name := "holeChecks", fn := fun _ => fun
  | [d1, d2] => { results := [.lit (.bool true)], args := [d1, d2] }
  | _ => none }
def holeChecksRow : OpenClaim := { program := "ytfpagfhhhlljjaagreatdoor", sum := "aa24f0f0a7b968e66858d05fa7d2765a4fa9a646222b70a1d8528e8556a90144", func := "testbench/testbenchlaw50.HoleChecks", spec := "holeChecks", inPlace := ["internal/bytealg.IndexByteString", "internal/bytealg.IndexString", "internal/abi.NoEscape", "internal/bytealg.MakeNoZero"], unfollowed := true, recurses := true, named := ["testbench/lexer.keywords", "internal/bytealg.MaxLen"], loops := true, apart := false, laid := [("testbench/lexer.keywords", laid_testbench_lexer_keywords)] }
def HoleChecksSaid : Prop := holeChecksRow.holds Tryz.pinned (OpenSpec.ofChange holeChecksSpec)

/-- ITS FALSE NEIGHBOUR: 'it returns false'. Refute it at one input. -/
def holeChecksWrong : ChangeSpec := { name := "holeChecks", fn := fun _ => fun
  | [d1, d2] => { results := [.lit (.bool false)], args := [d1, d2] }
  | _ => none }
def HoleChecksWrongFalsely : Prop := holeChecksRow.holds Tryz.pinned (OpenSpec.ofChange holeChecksWrong)

/-- 'testbenchlaw50.HoleConditions': WHATEVER THE INPUT: true; the input reads as it did. -/
def holeConditionsSpec : ChangeSpec := { name := "holeConditions", fn := fun _ => fun
  | [d1, d2] => { results := [.lit (.bool true)], args := [d1, d2] }
  | _ => none }
def holeConditionsRow : OpenClaim := { program := "ytfpagfhhhlljjaagreatdoor", sum := "aa24f0f0a7b968e66858d05fa7d2765a4fa9a646222b70a1d8528e8556a90144", func := "testbench/testbenchlaw50.HoleConditions", spec := "holeConditions", inPlace := ["internal/bytealg.IndexByteString", "internal/bytealg.IndexString", "internal/abi.NoEscape", "internal/bytealg.MakeNoZero"], unfollowed := true, recurses := true, named := ["testbench/lexer.keywords", "internal/bytealg.MaxLen"], loops := true, apart := false, laid := [("testbench/lexer.keywords", laid_testbench_lexer_keywords)] }
def HoleConditionsSaid : Prop := holeConditionsRow.holds Tryz.pinned (OpenSpec.ofChange holeConditionsSpec)

/-- ITS FALSE NEIGHBOUR: 'it returns false'. Refute it at one input. -/
def holeConditionsWrong : ChangeSpec := { name := "holeConditions", fn := fun _ => fun
  | [d1, d2] => { results := [.lit (.bool false)], args := [d1, d2] }
  | _ => none }
def HoleConditionsWrongFalsely : Prop := holeConditionsRow.holds Tryz.pinned (OpenSpec.ofChange holeConditionsWrong)

/-- 'testbenchlaw50.HoleTells': WHATEVER THE INPUT: true; the input reads as it did. -/
def holeTellsSpec : ChangeSpec := { name := "holeTells", fn := fun _ => fun
  | [d1, d2, d3] => { results := [.lit (.bool true)], args := [d1, d2, d3] }
  | _ => none }
def holeTellsRow : OpenClaim := { program := "ytfpagfhhhlljjaagreatdoor", sum := "aa24f0f0a7b968e66858d05fa7d2765a4fa9a646222b70a1d8528e8556a90144", func := "testbench/testbenchlaw50.HoleTells", spec := "holeTells", inPlace := ["internal/bytealg.IndexByteString", "internal/bytealg.IndexString", "internal/abi.NoEscape", "internal/bytealg.MakeNoZero"], unfollowed := true, recurses := true, named := ["testbench/lexer.keywords", "internal/bytealg.MaxLen"], loops := true, apart := false, laid := [("testbench/lexer.keywords", laid_testbench_lexer_keywords)] }
def HoleTellsSaid : Prop := holeTellsRow.holds Tryz.pinned (OpenSpec.ofChange holeTellsSpec)

/-- ITS FALSE NEIGHBOUR: 'it returns false'. Refute it at one input. -/
def holeTellsWrong : ChangeSpec := { name := "holeTells", fn := fun _ => fun
  | [d1, d2, d3] => { results := [.lit (.bool false)], args := [d1, d2, d3] }
  | _ => none }
def HoleTellsWrongFalsely : Prop := holeTellsRow.holds Tryz.pinned (OpenSpec.ofChange holeTellsWrong)

/-- 'testbenchlaw50.HoleHits': WHATEVER THE INPUT: true; the input reads as it did. -/
def holeHitsSpec : ChangeSpec := { name := "holeHits", fn := fun _ => fun
  | [d1, d2, d3] => { results := [.lit (.bool true)], args := [d1, d2, d3] }
  | _ => none }
def holeHitsRow : OpenClaim := { program := "ytfpagfhhhlljjaagreatdoor", sum := "aa24f0f0a7b968e66858d05fa7d2765a4fa9a646222b70a1d8528e8556a90144", func := "testbench/testbenchlaw50.HoleHits", spec := "holeHits", inPlace := ["internal/bytealg.IndexByteString", "internal/bytealg.IndexString", "internal/abi.NoEscape", "internal/bytealg.MakeNoZero"], unfollowed := true, recurses := true, named := ["testbench/lexer.keywords", "internal/bytealg.MaxLen"], loops := true, apart := false, laid := [("testbench/lexer.keywords", laid_testbench_lexer_keywords)] }
def HoleHitsSaid : Prop := holeHitsRow.holds Tryz.pinned (OpenSpec.ofChange holeHitsSpec)

/-- ITS FALSE NEIGHBOUR: 'it returns false'. Refute it at one input. -/
def holeHitsWrong : ChangeSpec := { name := "holeHits", fn := fun _ => fun
  | [d1, d2, d3] => { results := [.lit (.bool false)], args := [d1, d2, d3] }
  | _ => none }
def HoleHitsWrongFalsely : Prop := holeHitsRow.holds Tryz.pinned (OpenSpec.ofChange holeHitsWrong)

/-- 'testbenchlaw50.HoleNeeds': WHATEVER THE INPUT: true; the input reads as it did. -/
def holeNeedsSpec : ChangeSpec := { name := "holeNeeds", fn := fun _ => fun
  | [d1, d2, d3] => { results := [.lit (.bool true)], args := [d1, d2, d3] }
  | _ => none }
def holeNeedsRow : OpenClaim := { program := "ytfpagfhhhlljjaagreatdoor", sum := "aa24f0f0a7b968e66858d05fa7d2765a4fa9a646222b70a1d8528e8556a90144", func := "testbench/testbenchlaw50.HoleNeeds", spec := "holeNeeds", inPlace := ["internal/bytealg.IndexByteString", "internal/bytealg.IndexString", "internal/abi.NoEscape", "internal/bytealg.MakeNoZero"], unfollowed := true, recurses := true, named := ["testbench/lexer.keywords", "internal/bytealg.MaxLen"], loops := true, apart := false, laid := [("testbench/lexer.keywords", laid_testbench_lexer_keywords)] }
def HoleNeedsSaid : Prop := holeNeedsRow.holds Tryz.pinned (OpenSpec.ofChange holeNeedsSpec)

/-- ITS FALSE NEIGHBOUR: 'it returns false'. Refute it at one input. -/
def holeNeedsWrong : ChangeSpec := { name := "holeNeeds", fn := fun _ => fun
  | [d1, d2, d3] => { results := [.lit (.bool false)], args := [d1, d2, d3] }
  | _ => none }
def HoleNeedsWrongFalsely : Prop := holeNeedsRow.holds Tryz.pinned (OpenSpec.ofChange holeNeedsWrong)

/-- 'testbenchlaw50.HoleNames': WHATEVER THE INPUT: true; the input reads as it did. -/
def holeNamesSpec : ChangeSpec := { name := "holeNames", fn := fun _ => fun
  | [d1, d2, d3] => { results := [.lit (.bool true)], args := [d1, d2, d3] }
  | _ => none }
def holeNamesRow : OpenClaim := { program := "ytfpagfhhhlljjaagreatdoor", sum := "aa24f0f0a7b968e66858d05fa7d2765a4fa9a646222b70a1d8528e8556a90144", func := "testbench/testbenchlaw50.HoleNames", spec := "holeNames", inPlace := ["internal/bytealg.IndexByteString", "internal/bytealg.IndexString", "internal/abi.NoEscape", "internal/bytealg.MakeNoZero"], unfollowed := true, recurses := true, named := ["testbench/lexer.keywords", "internal/bytealg.MaxLen"], loops := true, apart := false, laid := [("testbench/lexer.keywords", laid_testbench_lexer_keywords)] }
def HoleNamesSaid : Prop := holeNamesRow.holds Tryz.pinned (OpenSpec.ofChange holeNamesSpec)

/-- ITS FALSE NEIGHBOUR: 'it returns false'. Refute it at one input. -/
def holeNamesWrong : ChangeSpec := { name := "holeNames", fn := fun _ => fun
  | [d1, d2, d3] => { results := [.lit (.bool false)], args := [d1, d2, d3] }
  | _ => none }
def HoleNamesWrongFalsely : Prop := holeNamesRow.holds Tryz.pinned (OpenSpec.ofChange holeNamesWrong)

/- THE SECOND FORM. 'bulk': how many values and letters a reading holds, each counted each time it is reached (what is shared counts as often as it is met; a slice's spare places count too). A statement '..UptoSaid' is the law's where the arguments, and the package variables that the reading takes, are together of bulk at most 1048576: NARROWER than '..Said'. Prove '..Said' where nothing that the law and all that it calls make is longer than what came in: it says more and counts as full. Else prove '..UptoSaid'. A law counts once. -/
mutual
def uptoBulk {H : Type} : DataW H → Nat
  | .lit (.string bytes) => bytes.length + 1
  | .lit _ => 1
  | .nil => 1
  | .ptr d => uptoBulk d + 1
  | .slice elems spare => uptoBulkAll elems + uptoBulkAll spare + 1
  | .agg parts => uptoBulkAll parts + 1
  | .iface _ d => uptoBulk d + 1
  | .map entries => uptoBulkEntries entries + 1
  | .held _ => 1
def uptoBulkAll {H : Type} : List (DataW H) → Nat
  | [] => 0
  | d :: r => uptoBulk d + uptoBulkAll r
def uptoBulkEntries {H : Type} : List (Lit × DataW H) → Nat
  | [] => 0
  | x :: r => uptoBulkEntry x + uptoBulkEntries r
def uptoBulkEntry {H : Type} : Lit × DataW H → Nat
  | (.string bytes, d) => bytes.length + uptoBulk d + 1
  | (_, d) => uptoBulk d + 1
 end
def uptoSmall : (H : Type) → List (DataW H) → Bool := fun _ ds => decide (uptoBulkAll ds ≤ 1048576)
def OpenSpec.upto (s : _root_.Go.ChangeSpec) : _root_.Go.OpenSpec := { _root_.Go.OpenSpec.ofChange s with cond := some uptoSmall }

/-- 'testbenchlaw50.HoleChecks', WHERE WHAT IT READS IS OF BULK AT MOST 1048576: true; the input reads as it did. -/
def holeChecksUptoRow : OpenClaim := { program := "ytfpagfhhhlljjaagreatdoor", sum := "aa24f0f0a7b968e66858d05fa7d2765a4fa9a646222b70a1d8528e8556a90144", func := "testbench/testbenchlaw50.HoleChecks", spec := "holeChecks", inPlace := ["internal/bytealg.IndexByteString", "internal/bytealg.IndexString", "internal/abi.NoEscape", "internal/bytealg.MakeNoZero"], unfollowed := true, recurses := true, named := ["testbench/lexer.keywords", "internal/bytealg.MaxLen"], loops := true, apart := false, laid := [("testbench/lexer.keywords", laid_testbench_lexer_keywords)], narrowed := true }
def HoleChecksUptoSaid : Prop := holeChecksUptoRow.holds Tryz.pinned (OpenSpec.upto holeChecksSpec)

/-- 'testbenchlaw50.HoleConditions', WHERE WHAT IT READS IS OF BULK AT MOST 1048576: true; the input reads as it did. -/
def holeConditionsUptoRow : OpenClaim := { program := "ytfpagfhhhlljjaagreatdoor", sum := "aa24f0f0a7b968e66858d05fa7d2765a4fa9a646222b70a1d8528e8556a90144", func := "testbench/testbenchlaw50.HoleConditions", spec := "holeConditions", inPlace := ["internal/bytealg.IndexByteString", "internal/bytealg.IndexString", "internal/abi.NoEscape", "internal/bytealg.MakeNoZero"], unfollowed := true, recurses := true, named := ["testbench/lexer.keywords", "internal/bytealg.MaxLen"], loops := true, apart := false, laid := [("testbench/lexer.keywords", laid_testbench_lexer_keywords)], narrowed := true }
def HoleConditionsUptoSaid : Prop := holeConditionsUptoRow.holds Tryz.pinned (OpenSpec.upto holeConditionsSpec)

/-- 'testbenchlaw50.HoleTells', WHERE WHAT IT READS IS OF BULK AT MOST 1048576: true; the input reads as it did. -/
def holeTellsUptoRow : OpenClaim := { program := "ytfpagfhhhlljjaagreatdoor", sum := "aa24f0f0a7b968e66858d05fa7d2765a4fa9a646222b70a1d8528e8556a90144", func := "testbench/testbenchlaw50.HoleTells", spec := "holeTells", inPlace := ["internal/bytealg.IndexByteString", "internal/bytealg.IndexString", "internal/abi.NoEscape", "internal/bytealg.MakeNoZero"], unfollowed := true, recurses := true, named := ["testbench/lexer.keywords", "internal/bytealg.MaxLen"], loops := true, apart := false, laid := [("testbench/lexer.keywords", laid_testbench_lexer_keywords)], narrowed := true }
def HoleTellsUptoSaid : Prop := holeTellsUptoRow.holds Tryz.pinned (OpenSpec.upto holeTellsSpec)

/-- 'testbenchlaw50.HoleHits', WHERE WHAT IT READS IS OF BULK AT MOST 1048576: true; the input reads as it did. -/
def holeHitsUptoRow : OpenClaim := { program := "ytfpagfhhhlljjaagreatdoor", sum := "aa24f0f0a7b968e66858d05fa7d2765a4fa9a646222b70a1d8528e8556a90144", func := "testbench/testbenchlaw50.HoleHits", spec := "holeHits", inPlace := ["internal/bytealg.IndexByteString", "internal/bytealg.IndexString", "internal/abi.NoEscape", "internal/bytealg.MakeNoZero"], unfollowed := true, recurses := true, named := ["testbench/lexer.keywords", "internal/bytealg.MaxLen"], loops := true, apart := false, laid := [("testbench/lexer.keywords", laid_testbench_lexer_keywords)], narrowed := true }
def HoleHitsUptoSaid : Prop := holeHitsUptoRow.holds Tryz.pinned (OpenSpec.upto holeHitsSpec)

/-- 'testbenchlaw50.HoleNeeds', WHERE WHAT IT READS IS OF BULK AT MOST 1048576: true; the input reads as it did. -/
def holeNeedsUptoRow : OpenClaim := { program := "ytfpagfhhhlljjaagreatdoor", sum := "aa24f0f0a7b968e66858d05fa7d2765a4fa9a646222b70a1d8528e8556a90144", func := "testbench/testbenchlaw50.HoleNeeds", spec := "holeNeeds", inPlace := ["internal/bytealg.IndexByteString", "internal/bytealg.IndexString", "internal/abi.NoEscape", "internal/bytealg.MakeNoZero"], unfollowed := true, recurses := true, named := ["testbench/lexer.keywords", "internal/bytealg.MaxLen"], loops := true, apart := false, laid := [("testbench/lexer.keywords", laid_testbench_lexer_keywords)], narrowed := true }
def HoleNeedsUptoSaid : Prop := holeNeedsUptoRow.holds Tryz.pinned (OpenSpec.upto holeNeedsSpec)

/-- 'testbenchlaw50.HoleNames', WHERE WHAT IT READS IS OF BULK AT MOST 1048576: true; the input reads as it did. -/
def holeNamesUptoRow : OpenClaim := { program := "ytfpagfhhhlljjaagreatdoor", sum := "aa24f0f0a7b968e66858d05fa7d2765a4fa9a646222b70a1d8528e8556a90144", func := "testbench/testbenchlaw50.HoleNames", spec := "holeNames", inPlace := ["internal/bytealg.IndexByteString", "internal/bytealg.IndexString", "internal/abi.NoEscape", "internal/bytealg.MakeNoZero"], unfollowed := true, recurses := true, named := ["testbench/lexer.keywords", "internal/bytealg.MaxLen"], loops := true, apart := false, laid := [("testbench/lexer.keywords", laid_testbench_lexer_keywords)], narrowed := true }
def HoleNamesUptoSaid : Prop := holeNamesUptoRow.holds Tryz.pinned (OpenSpec.upto holeNamesSpec)

end Rows
end Go.Proofs.YtfpagfhhhlljjaaGreatDoor
