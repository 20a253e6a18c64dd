/-
  NARROWER THAN 'FOR EVERY INPUT', by the rows' own cells (each row's printed sentence says how): MergeMeasures: loops, laid · MergeAdds: loops, laid · MergeAlgebra: loops, laid · MergeGains: loops, laid · CoverPoints: loops, laid · CoverRuns: loops, laid · CoverCrosses: loops, laid · RankGreedy: loops, laid · RankNeeds: loops, laid · RankLeast: loops, laid · CoverCounts: loops, laid · CoverValids: loops, laid · CoverSamples: loops, laid · CoverContinues: loops, laid · RankReaches: loops, laid · RankContains: loops, laid · RankSums: loops, laid · MergeRuns: loops, laid · MergeConcatenates: loops, laid.
  DERIVED. THE GIVEN ROWS OF THIS SEAT. 19 by the template 'for every input the law returns true; each argument reads behind the call as it read before'; 0 by the template 'total and deterministic' (their statements: YtocilianjfhifaaGreatDoorTotals.lean).
  GIVEN WITH THE SEED: the statements are not yours to turn. If you find one false, say at which input.
  Laid BY PROGRAM, IN A SANDBOX (cutbox-rows.mjs): the forced cells as the released guide's own fill.sh prints them over the translation 62382a50a8eda49c… (all of the seat's roots in one cut). By AI agents, Wed Nov 11 2026. No macro, syntax, notation, axiom, sorry.
-/
import Derived.Test.YtocilianjfhifaaGreatDoorChecked
import GoSem.Claim
import GoSem.ClaimJoined
import GoSem.ClaimMapViews
import Derived.JoinedTies
import Derived.KernelRfl
namespace Go.Proofs.YtocilianjfhifaaGreatDoor
/- THE CELL 'sum', in the pinned program and in every row, IS THE sha256 OF THE DUMP (.gsa) THAT YtocilianjfhifaaGreatDoorProg.lean LOADS. Nothing in Lean hashes anything: it is a label: what it is worth is what the hold of that sum in a sandbox is worth. -/
noncomputable def Tryz.pinned : Pinned := { name := "ytocilianjfhifaagreatdoor", sum := "62382a50a8eda49ca1a5e412fea357b356bca6ea75a7edbf8f0a2db8cd4226af", checked := Tryz.checked }
namespace Rows
def none {H : Type} : Left H := { results := [], args := [] }

/- WHAT THE LISTED PACKAGE-LEVEL VARIABLES READ AS WHEN THE CALL BEGINS. Each datum BY PROGRAM (the guide's laid-datum.mjs) off the statement by which the dump's own 'gosem.cut.vars' lays the variable. In a bare row this is a premise. The card (YtocilianjfhifaaGreatDoorCards.lean) ties it to the program's text. -/
def laid_testbench_lexer_keywords {H : Type} : DataW H := .slice [.lit (.string [99, 108, 97, 115, 115]), .lit (.string [101, 120, 116, 101, 110, 100, 115]), .lit (.string [114, 97, 110, 100]), .lit (.string [114, 97, 110, 100, 99]), .lit (.string [115, 116, 97, 116, 101]), .lit (.string [99, 111, 110, 115, 116, 114, 97, 105, 110, 116]), .lit (.string [115, 111, 102, 116]), .lit (.string [100, 105, 115, 116]), .lit (.string [105, 102]), .lit (.string [101, 108, 115, 101]), .lit (.string [101, 97, 99, 104]), .lit (.string [105, 110]), .lit (.string [115, 111, 108, 118, 101]), .lit (.string [98, 101, 102, 111, 114, 101]), .lit (.string [105, 110, 115, 105, 100, 101]), .lit (.string [112, 114, 111, 112, 101, 114, 116, 121]), .lit (.string [115, 101, 113]), .lit (.string [97, 110, 100]), .lit (.string [111, 114]), .lit (.string [110, 111, 116]), .lit (.string [115, 101, 116]), .lit (.string [104, 111, 108, 100]), .lit (.string [112, 108, 97, 105, 110]), .lit (.string [114, 101, 112, 101, 97, 116])] []

/-- 'testbenchlaw48.MergeMeasures': WHATEVER THE INPUT: true; the input reads as it did. -/
def mergeMeasuresSpec : ChangeSpec := { name := "mergeMeasures", fn := fun _ => fun
  | [d1, d2, d3] => { results := [.lit (.bool true)], args := [d1, d2, d3] }
  | _ => none }
def mergeMeasuresRow : OpenClaim := { program := "ytocilianjfhifaagreatdoor", sum := "62382a50a8eda49ca1a5e412fea357b356bca6ea75a7edbf8f0a2db8cd4226af", func := "testbench/testbenchlaw48.MergeMeasures", spec := "mergeMeasures", inPlace := ["internal/bytealg.IndexByteString", "internal/bytealg.IndexString"], unfollowed := true, recurses := true, named := ["testbench/lexer.keywords", "internal/bytealg.MaxLen"], loops := true, apart := false, laid := [("testbench/lexer.keywords", laid_testbench_lexer_keywords)] }
def MergeMeasuresSaid : Prop := mergeMeasuresRow.holds Tryz.pinned (OpenSpec.ofChange mergeMeasuresSpec)

/-- ITS FALSE NEIGHBOUR: 'it returns false'. Refute it at one input. -/
def mergeMeasuresWrong : ChangeSpec := { name := "mergeMeasures", fn := fun _ => fun
  | [d1, d2, d3] => { results := [.lit (.bool false)], args := [d1, d2, d3] }
  | _ => none }
def MergeMeasuresWrongFalsely : Prop := mergeMeasuresRow.holds Tryz.pinned (OpenSpec.ofChange mergeMeasuresWrong)

/-- 'testbenchlaw48.MergeAdds': WHATEVER THE INPUT: true; the input reads as it did. -/
def mergeAddsSpec : ChangeSpec := { name := "mergeAdds", fn := fun _ => fun
  | [d1, d2] => { results := [.lit (.bool true)], args := [d1, d2] }
  | _ => none }
def mergeAddsRow : OpenClaim := { program := "ytocilianjfhifaagreatdoor", sum := "62382a50a8eda49ca1a5e412fea357b356bca6ea75a7edbf8f0a2db8cd4226af", func := "testbench/testbenchlaw48.MergeAdds", spec := "mergeAdds", inPlace := ["internal/bytealg.IndexByteString", "internal/bytealg.IndexString"], unfollowed := true, recurses := true, named := ["testbench/lexer.keywords", "internal/bytealg.MaxLen"], loops := true, apart := false, laid := [("testbench/lexer.keywords", laid_testbench_lexer_keywords)] }
def MergeAddsSaid : Prop := mergeAddsRow.holds Tryz.pinned (OpenSpec.ofChange mergeAddsSpec)

/-- ITS FALSE NEIGHBOUR: 'it returns false'. Refute it at one input. -/
def mergeAddsWrong : ChangeSpec := { name := "mergeAdds", fn := fun _ => fun
  | [d1, d2] => { results := [.lit (.bool false)], args := [d1, d2] }
  | _ => none }
def MergeAddsWrongFalsely : Prop := mergeAddsRow.holds Tryz.pinned (OpenSpec.ofChange mergeAddsWrong)

/-- 'testbenchlaw48.MergeAlgebra': WHATEVER THE INPUT: true; the input reads as it did. -/
def mergeAlgebraSpec : ChangeSpec := { name := "mergeAlgebra", fn := fun _ => fun
  | [d1, d2] => { results := [.lit (.bool true)], args := [d1, d2] }
  | _ => none }
def mergeAlgebraRow : OpenClaim := { program := "ytocilianjfhifaagreatdoor", sum := "62382a50a8eda49ca1a5e412fea357b356bca6ea75a7edbf8f0a2db8cd4226af", func := "testbench/testbenchlaw48.MergeAlgebra", spec := "mergeAlgebra", inPlace := ["internal/bytealg.IndexByteString", "internal/bytealg.IndexString"], unfollowed := true, recurses := true, named := ["testbench/lexer.keywords", "internal/bytealg.MaxLen"], loops := true, apart := false, laid := [("testbench/lexer.keywords", laid_testbench_lexer_keywords)] }
def MergeAlgebraSaid : Prop := mergeAlgebraRow.holds Tryz.pinned (OpenSpec.ofChange mergeAlgebraSpec)

/-- ITS FALSE NEIGHBOUR: 'it returns false'. Refute it at one input. -/
def mergeAlgebraWrong : ChangeSpec := { name := "mergeAlgebra", fn := fun _ => fun
  | [d1, d2] => { results := [.lit (.bool false)], args := [d1, d2] }
  | _ => none }
def MergeAlgebraWrongFalsely : Prop := mergeAlgebraRow.holds Tryz.pinned (OpenSpec.ofChange mergeAlgebraWrong)

/-- 'testbenchlaw48.MergeGains': WHATEVER THE INPUT: true; the input reads as it did. -/
def mergeGainsSpec : ChangeSpec := { name := "mergeGains", fn := fun _ => fun
  | [d1, d2, d3] => { results := [.lit (.bool true)], args := [d1, d2, d3] }
  | _ => none }
def mergeGainsRow : OpenClaim := { program := "ytocilianjfhifaagreatdoor", sum := "62382a50a8eda49ca1a5e412fea357b356bca6ea75a7edbf8f0a2db8cd4226af", func := "testbench/testbenchlaw48.MergeGains", spec := "mergeGains", inPlace := ["internal/bytealg.IndexByteString", "internal/bytealg.IndexString"], unfollowed := true, recurses := true, named := ["testbench/lexer.keywords", "internal/bytealg.MaxLen"], loops := true, apart := false, laid := [("testbench/lexer.keywords", laid_testbench_lexer_keywords)] }
def MergeGainsSaid : Prop := mergeGainsRow.holds Tryz.pinned (OpenSpec.ofChange mergeGainsSpec)

/-- ITS FALSE NEIGHBOUR: 'it returns false'. Refute it at one input. -/
def mergeGainsWrong : ChangeSpec := { name := "mergeGains", fn := fun _ => fun
  | [d1, d2, d3] => { results := [.lit (.bool false)], args := [d1, d2, d3] }
  | _ => none }
def MergeGainsWrongFalsely : Prop := mergeGainsRow.holds Tryz.pinned (OpenSpec.ofChange mergeGainsWrong)

/-- 'testbenchlaw46.CoverPoints': WHATEVER THE INPUT: true; the input reads as it did. -/
def coverPointsSpec : ChangeSpec := { name := "coverPoints", fn := fun _ => fun
  | [d1, d2, d3] => { results := [.lit (.bool true)], args := [d1, d2, d3] }
  | _ => none }
def coverPointsRow : OpenClaim := { program := "ytocilianjfhifaagreatdoor", sum := "62382a50a8eda49ca1a5e412fea357b356bca6ea75a7edbf8f0a2db8cd4226af", func := "testbench/testbenchlaw46.CoverPoints", spec := "coverPoints", inPlace := ["internal/bytealg.IndexByteString", "internal/bytealg.IndexString"], unfollowed := true, recurses := true, named := ["testbench/lexer.keywords", "internal/bytealg.MaxLen"], loops := true, apart := false, laid := [("testbench/lexer.keywords", laid_testbench_lexer_keywords)] }
def CoverPointsSaid : Prop := coverPointsRow.holds Tryz.pinned (OpenSpec.ofChange coverPointsSpec)

/-- ITS FALSE NEIGHBOUR: 'it returns false'. Refute it at one input. -/
def coverPointsWrong : ChangeSpec := { name := "coverPoints", fn := fun _ => fun
  | [d1, d2, d3] => { results := [.lit (.bool false)], args := [d1, d2, d3] }
  | _ => none }
def CoverPointsWrongFalsely : Prop := coverPointsRow.holds Tryz.pinned (OpenSpec.ofChange coverPointsWrong)

/-- 'testbenchlaw46.CoverRuns': WHATEVER THE INPUT: true; the input reads as it did. -/
def coverRunsSpec : ChangeSpec := { name := "coverRuns", fn := fun _ => fun
  | [d1, d2] => { results := [.lit (.bool true)], args := [d1, d2] }
  | _ => none }
def coverRunsRow : OpenClaim := { program := "ytocilianjfhifaagreatdoor", sum := "62382a50a8eda49ca1a5e412fea357b356bca6ea75a7edbf8f0a2db8cd4226af", func := "testbench/testbenchlaw46.CoverRuns", spec := "coverRuns", inPlace := ["internal/bytealg.IndexByteString", "internal/bytealg.IndexString"], unfollowed := true, recurses := true, named := ["testbench/lexer.keywords", "internal/bytealg.MaxLen"], loops := true, apart := false, laid := [("testbench/lexer.keywords", laid_testbench_lexer_keywords)] }
def CoverRunsSaid : Prop := coverRunsRow.holds Tryz.pinned (OpenSpec.ofChange coverRunsSpec)

/-- ITS FALSE NEIGHBOUR: 'it returns false'. Refute it at one input. -/
def coverRunsWrong : ChangeSpec := { name := "coverRuns", fn := fun _ => fun
  | [d1, d2] => { results := [.lit (.bool false)], args := [d1, d2] }
  | _ => none }
def CoverRunsWrongFalsely : Prop := coverRunsRow.holds Tryz.pinned (OpenSpec.ofChange coverRunsWrong)

/-- 'testbenchlaw46.CoverCrosses': WHATEVER THE INPUT: true; the input reads as it did. -/
def coverCrossesSpec : ChangeSpec := { name := "coverCrosses", fn := fun _ => fun
  | [d1, d2] => { results := [.lit (.bool true)], args := [d1, d2] }
  | _ => none }
def coverCrossesRow : OpenClaim := { program := "ytocilianjfhifaagreatdoor", sum := "62382a50a8eda49ca1a5e412fea357b356bca6ea75a7edbf8f0a2db8cd4226af", func := "testbench/testbenchlaw46.CoverCrosses", spec := "coverCrosses", inPlace := ["internal/bytealg.IndexByteString", "internal/bytealg.IndexString"], unfollowed := true, recurses := true, named := ["testbench/lexer.keywords", "internal/bytealg.MaxLen"], loops := true, apart := false, laid := [("testbench/lexer.keywords", laid_testbench_lexer_keywords)] }
def CoverCrossesSaid : Prop := coverCrossesRow.holds Tryz.pinned (OpenSpec.ofChange coverCrossesSpec)

/-- ITS FALSE NEIGHBOUR: 'it returns false'. Refute it at one input. -/
def coverCrossesWrong : ChangeSpec := { name := "coverCrosses", fn := fun _ => fun
  | [d1, d2] => { results := [.lit (.bool false)], args := [d1, d2] }
  | _ => none }
def CoverCrossesWrongFalsely : Prop := coverCrossesRow.holds Tryz.pinned (OpenSpec.ofChange coverCrossesWrong)

/-- 'testbenchlaw49.RankGreedy': WHATEVER THE INPUT: true; the input reads as it did. -/
def rankGreedySpec : ChangeSpec := { name := "rankGreedy", fn := fun _ => fun
  | [d1, d2] => { results := [.lit (.bool true)], args := [d1, d2] }
  | _ => none }
def rankGreedyRow : OpenClaim := { program := "ytocilianjfhifaagreatdoor", sum := "62382a50a8eda49ca1a5e412fea357b356bca6ea75a7edbf8f0a2db8cd4226af", func := "testbench/testbenchlaw49.RankGreedy", spec := "rankGreedy", inPlace := ["internal/bytealg.IndexByteString", "internal/bytealg.IndexString"], unfollowed := true, recurses := true, named := ["testbench/lexer.keywords", "internal/bytealg.MaxLen"], loops := true, apart := false, laid := [("testbench/lexer.keywords", laid_testbench_lexer_keywords)] }
def RankGreedySaid : Prop := rankGreedyRow.holds Tryz.pinned (OpenSpec.ofChange rankGreedySpec)

/-- ITS FALSE NEIGHBOUR: 'it returns false'. Refute it at one input. -/
def rankGreedyWrong : ChangeSpec := { name := "rankGreedy", fn := fun _ => fun
  | [d1, d2] => { results := [.lit (.bool false)], args := [d1, d2] }
  | _ => none }
def RankGreedyWrongFalsely : Prop := rankGreedyRow.holds Tryz.pinned (OpenSpec.ofChange rankGreedyWrong)

/-- 'testbenchlaw49.RankNeeds': WHATEVER THE INPUT: true; the input reads as it did. -/
def rankNeedsSpec : ChangeSpec := { name := "rankNeeds", fn := fun _ => fun
  | [d1, d2] => { results := [.lit (.bool true)], args := [d1, d2] }
  | _ => none }
def rankNeedsRow : OpenClaim := { program := "ytocilianjfhifaagreatdoor", sum := "62382a50a8eda49ca1a5e412fea357b356bca6ea75a7edbf8f0a2db8cd4226af", func := "testbench/testbenchlaw49.RankNeeds", spec := "rankNeeds", inPlace := ["internal/bytealg.IndexByteString", "internal/bytealg.IndexString"], unfollowed := true, recurses := true, named := ["testbench/lexer.keywords", "internal/bytealg.MaxLen"], loops := true, apart := false, laid := [("testbench/lexer.keywords", laid_testbench_lexer_keywords)] }
def RankNeedsSaid : Prop := rankNeedsRow.holds Tryz.pinned (OpenSpec.ofChange rankNeedsSpec)

/-- ITS FALSE NEIGHBOUR: 'it returns false'. Refute it at one input. -/
def rankNeedsWrong : ChangeSpec := { name := "rankNeeds", fn := fun _ => fun
  | [d1, d2] => { results := [.lit (.bool false)], args := [d1, d2] }
  | _ => none }
def RankNeedsWrongFalsely : Prop := rankNeedsRow.holds Tryz.pinned (OpenSpec.ofChange rankNeedsWrong)

/-- 'testbenchlaw49.RankLeast': WHATEVER THE INPUT: true; the input reads as it did. -/
def rankLeastSpec : ChangeSpec := { name := "rankLeast", fn := fun _ => fun
  | [d] => { results := [.lit (.bool true)], args := [d] }
  | _ => none }
def rankLeastRow : OpenClaim := { program := "ytocilianjfhifaagreatdoor", sum := "62382a50a8eda49ca1a5e412fea357b356bca6ea75a7edbf8f0a2db8cd4226af", func := "testbench/testbenchlaw49.RankLeast", spec := "rankLeast", inPlace := ["internal/bytealg.IndexByteString", "internal/bytealg.IndexString"], unfollowed := true, recurses := true, named := ["testbench/lexer.keywords", "internal/bytealg.MaxLen"], loops := true, apart := false, laid := [("testbench/lexer.keywords", laid_testbench_lexer_keywords)] }
def RankLeastSaid : Prop := rankLeastRow.holds Tryz.pinned (OpenSpec.ofChange rankLeastSpec)

/-- ITS FALSE NEIGHBOUR: 'it returns false'. Refute it at one input. -/
def rankLeastWrong : ChangeSpec := { name := "rankLeast", fn := fun _ => fun
  | [d] => { results := [.lit (.bool false)], args := [d] }
  | _ => none }
def RankLeastWrongFalsely : Prop := rankLeastRow.holds Tryz.pinned (OpenSpec.ofChange rankLeastWrong)

/-- 'testbenchlaw46.CoverCounts': WHATEVER THE INPUT: true; the input reads as it did. -/
def coverCountsSpec : ChangeSpec := { name := "coverCounts", fn := fun _ => fun
  | [d1, d2] => { results := [.lit (.bool true)], args := [d1, d2] }
  | _ => none }
def coverCountsRow : OpenClaim := { program := "ytocilianjfhifaagreatdoor", sum := "62382a50a8eda49ca1a5e412fea357b356bca6ea75a7edbf8f0a2db8cd4226af", func := "testbench/testbenchlaw46.CoverCounts", spec := "coverCounts", inPlace := ["internal/bytealg.IndexByteString", "internal/bytealg.IndexString"], unfollowed := true, recurses := true, named := ["testbench/lexer.keywords", "internal/bytealg.MaxLen"], loops := true, apart := false, laid := [("testbench/lexer.keywords", laid_testbench_lexer_keywords)] }
def CoverCountsSaid : Prop := coverCountsRow.holds Tryz.pinned (OpenSpec.ofChange coverCountsSpec)

/-- ITS FALSE NEIGHBOUR: 'it returns false'. Refute it at one input. -/
def coverCountsWrong : ChangeSpec := { name := "coverCounts", fn := fun _ => fun
  | [d1, d2] => { results := [.lit (.bool false)], args := [d1, d2] }
  | _ => none }
def CoverCountsWrongFalsely : Prop := coverCountsRow.holds Tryz.pinned (OpenSpec.ofChange coverCountsWrong)

/-- 'testbenchlaw46.CoverValids': WHATEVER THE INPUT: true; the input reads as it did. -/
def coverValidsSpec : ChangeSpec := { name := "coverValids", fn := fun _ => fun
  | [d1, d2, d3] => { results := [.lit (.bool true)], args := [d1, d2, d3] }
  | _ => none }
def coverValidsRow : OpenClaim := { program := "ytocilianjfhifaagreatdoor", sum := "62382a50a8eda49ca1a5e412fea357b356bca6ea75a7edbf8f0a2db8cd4226af", func := "testbench/testbenchlaw46.CoverValids", spec := "coverValids", inPlace := ["internal/bytealg.IndexByteString", "internal/bytealg.IndexString"], unfollowed := true, recurses := true, named := ["testbench/lexer.keywords", "internal/bytealg.MaxLen"], loops := true, apart := false, laid := [("testbench/lexer.keywords", laid_testbench_lexer_keywords)] }
def CoverValidsSaid : Prop := coverValidsRow.holds Tryz.pinned (OpenSpec.ofChange coverValidsSpec)

/-- ITS FALSE NEIGHBOUR: 'it returns false'. Refute it at one input. -/
def coverValidsWrong : ChangeSpec := { name := "coverValids", fn := fun _ => fun
  | [d1, d2, d3] => { results := [.lit (.bool false)], args := [d1, d2, d3] }
  | _ => none }
def CoverValidsWrongFalsely : Prop := coverValidsRow.holds Tryz.pinned (OpenSpec.ofChange coverValidsWrong)

/-- 'testbenchlaw46.CoverSamples': WHATEVER THE INPUT: true; the input reads as it did. -/
def coverSamplesSpec : ChangeSpec := { name := "coverSamples", fn := fun _ => fun
  | [d1, d2, d3] => { results := [.lit (.bool true)], args := [d1, d2, d3] }
  | _ => none }
def coverSamplesRow : OpenClaim := { program := "ytocilianjfhifaagreatdoor", sum := "62382a50a8eda49ca1a5e412fea357b356bca6ea75a7edbf8f0a2db8cd4226af", func := "testbench/testbenchlaw46.CoverSamples", spec := "coverSamples", inPlace := ["internal/bytealg.IndexByteString", "internal/bytealg.IndexString"], unfollowed := true, recurses := true, named := ["testbench/lexer.keywords", "internal/bytealg.MaxLen"], loops := true, apart := false, laid := [("testbench/lexer.keywords", laid_testbench_lexer_keywords)] }
def CoverSamplesSaid : Prop := coverSamplesRow.holds Tryz.pinned (OpenSpec.ofChange coverSamplesSpec)

/-- ITS FALSE NEIGHBOUR: 'it returns false'. Refute it at one input. -/
def coverSamplesWrong : ChangeSpec := { name := "coverSamples", fn := fun _ => fun
  | [d1, d2, d3] => { results := [.lit (.bool false)], args := [d1, d2, d3] }
  | _ => none }
def CoverSamplesWrongFalsely : Prop := coverSamplesRow.holds Tryz.pinned (OpenSpec.ofChange coverSamplesWrong)

/-- 'testbenchlaw46.CoverContinues': WHATEVER THE INPUT: true; the input reads as it did. -/
def coverContinuesSpec : ChangeSpec := { name := "coverContinues", fn := fun _ => fun
  | [d1, d2, d3] => { results := [.lit (.bool true)], args := [d1, d2, d3] }
  | _ => none }
def coverContinuesRow : OpenClaim := { program := "ytocilianjfhifaagreatdoor", sum := "62382a50a8eda49ca1a5e412fea357b356bca6ea75a7edbf8f0a2db8cd4226af", func := "testbench/testbenchlaw46.CoverContinues", spec := "coverContinues", inPlace := ["internal/bytealg.IndexByteString", "internal/bytealg.IndexString"], unfollowed := true, recurses := true, named := ["testbench/lexer.keywords", "internal/bytealg.MaxLen"], loops := true, apart := false, laid := [("testbench/lexer.keywords", laid_testbench_lexer_keywords)] }
def CoverContinuesSaid : Prop := coverContinuesRow.holds Tryz.pinned (OpenSpec.ofChange coverContinuesSpec)

/-- ITS FALSE NEIGHBOUR: 'it returns false'. Refute it at one input. -/
def coverContinuesWrong : ChangeSpec := { name := "coverContinues", fn := fun _ => fun
  | [d1, d2, d3] => { results := [.lit (.bool false)], args := [d1, d2, d3] }
  | _ => none }
def CoverContinuesWrongFalsely : Prop := coverContinuesRow.holds Tryz.pinned (OpenSpec.ofChange coverContinuesWrong)

/-- 'testbenchlaw49.RankReaches': WHATEVER THE INPUT: true; the input reads as it did. -/
def rankReachesSpec : ChangeSpec := { name := "rankReaches", fn := fun _ => fun
  | [d] => { results := [.lit (.bool true)], args := [d] }
  | _ => none }
def rankReachesRow : OpenClaim := { program := "ytocilianjfhifaagreatdoor", sum := "62382a50a8eda49ca1a5e412fea357b356bca6ea75a7edbf8f0a2db8cd4226af", func := "testbench/testbenchlaw49.RankReaches", spec := "rankReaches", inPlace := ["internal/bytealg.IndexByteString", "internal/bytealg.IndexString"], unfollowed := true, recurses := true, named := ["testbench/lexer.keywords", "internal/bytealg.MaxLen"], loops := true, apart := false, laid := [("testbench/lexer.keywords", laid_testbench_lexer_keywords)] }
def RankReachesSaid : Prop := rankReachesRow.holds Tryz.pinned (OpenSpec.ofChange rankReachesSpec)

/-- ITS FALSE NEIGHBOUR: 'it returns false'. Refute it at one input. -/
def rankReachesWrong : ChangeSpec := { name := "rankReaches", fn := fun _ => fun
  | [d] => { results := [.lit (.bool false)], args := [d] }
  | _ => none }
def RankReachesWrongFalsely : Prop := rankReachesRow.holds Tryz.pinned (OpenSpec.ofChange rankReachesWrong)

/-- 'testbenchlaw49.RankContains': WHATEVER THE INPUT: true; the input reads as it did. -/
def rankContainsSpec : ChangeSpec := { name := "rankContains", fn := fun _ => fun
  | [d] => { results := [.lit (.bool true)], args := [d] }
  | _ => none }
def rankContainsRow : OpenClaim := { program := "ytocilianjfhifaagreatdoor", sum := "62382a50a8eda49ca1a5e412fea357b356bca6ea75a7edbf8f0a2db8cd4226af", func := "testbench/testbenchlaw49.RankContains", spec := "rankContains", inPlace := ["internal/bytealg.IndexByteString", "internal/bytealg.IndexString"], unfollowed := true, recurses := true, named := ["testbench/lexer.keywords", "internal/bytealg.MaxLen"], loops := true, apart := false, laid := [("testbench/lexer.keywords", laid_testbench_lexer_keywords)] }
def RankContainsSaid : Prop := rankContainsRow.holds Tryz.pinned (OpenSpec.ofChange rankContainsSpec)

/-- ITS FALSE NEIGHBOUR: 'it returns false'. Refute it at one input. -/
def rankContainsWrong : ChangeSpec := { name := "rankContains", fn := fun _ => fun
  | [d] => { results := [.lit (.bool false)], args := [d] }
  | _ => none }
def RankContainsWrongFalsely : Prop := rankContainsRow.holds Tryz.pinned (OpenSpec.ofChange rankContainsWrong)

/-- 'testbenchlaw49.RankSums': WHATEVER THE INPUT: true; the input reads as it did. -/
def rankSumsSpec : ChangeSpec := { name := "rankSums", fn := fun _ => fun
  | [d1, d2] => { results := [.lit (.bool true)], args := [d1, d2] }
  | _ => none }
def rankSumsRow : OpenClaim := { program := "ytocilianjfhifaagreatdoor", sum := "62382a50a8eda49ca1a5e412fea357b356bca6ea75a7edbf8f0a2db8cd4226af", func := "testbench/testbenchlaw49.RankSums", spec := "rankSums", inPlace := ["internal/bytealg.IndexByteString", "internal/bytealg.IndexString"], unfollowed := true, recurses := true, named := ["testbench/lexer.keywords", "internal/bytealg.MaxLen"], loops := true, apart := false, laid := [("testbench/lexer.keywords", laid_testbench_lexer_keywords)] }
def RankSumsSaid : Prop := rankSumsRow.holds Tryz.pinned (OpenSpec.ofChange rankSumsSpec)

/-- ITS FALSE NEIGHBOUR: 'it returns false'. Refute it at one input. -/
def rankSumsWrong : ChangeSpec := { name := "rankSums", fn := fun _ => fun
  | [d1, d2] => { results := [.lit (.bool false)], args := [d1, d2] }
  | _ => none }
def RankSumsWrongFalsely : Prop := rankSumsRow.holds Tryz.pinned (OpenSpec.ofChange rankSumsWrong)

/-- 'testbenchlaw48.MergeRuns': WHATEVER THE INPUT: true; the input reads as it did. -/
def mergeRunsSpec : ChangeSpec := { name := "mergeRuns", fn := fun _ => fun
  | [d1, d2] => { results := [.lit (.bool true)], args := [d1, d2] }
  | _ => none }
def mergeRunsRow : OpenClaim := { program := "ytocilianjfhifaagreatdoor", sum := "62382a50a8eda49ca1a5e412fea357b356bca6ea75a7edbf8f0a2db8cd4226af", func := "testbench/testbenchlaw48.MergeRuns", spec := "mergeRuns", inPlace := ["internal/bytealg.IndexByteString", "internal/bytealg.IndexString"], unfollowed := true, recurses := true, named := ["testbench/lexer.keywords", "internal/bytealg.MaxLen"], loops := true, apart := false, laid := [("testbench/lexer.keywords", laid_testbench_lexer_keywords)] }
def MergeRunsSaid : Prop := mergeRunsRow.holds Tryz.pinned (OpenSpec.ofChange mergeRunsSpec)

/-- ITS FALSE NEIGHBOUR: 'it returns false'. Refute it at one input. -/
def mergeRunsWrong : ChangeSpec := { name := "mergeRuns", fn := fun _ => fun
  | [d1, d2] => { results := [.lit (.bool false)], args := [d1, d2] }
  | _ => none }
def MergeRunsWrongFalsely : Prop := mergeRunsRow.holds Tryz.pinned (OpenSpec.ofChange mergeRunsWrong)

/-- 'testbenchlaw48.MergeConcatenates': WHATEVER THE INPUT: true; the input reads as it did. -/
def mergeConcatenatesSpec : ChangeSpec := { name := "mergeConcatenates", fn := fun _ => fun
  | [d1, d2, d3] => { results := [.lit (.bool true)], args := [d1, d2, d3] }
  | _ => none }
def mergeConcatenatesRow : OpenClaim := { program := "ytocilianjfhifaagreatdoor", sum := "62382a50a8eda49ca1a5e412fea357b356bca6ea75a7edbf8f0a2db8cd4226af", func := "testbench/testbenchlaw48.MergeConcatenates", spec := "mergeConcatenates", inPlace := ["internal/bytealg.IndexByteString", "internal/bytealg.IndexString"], unfollowed := true, recurses := true, named := ["testbench/lexer.keywords", "internal/bytealg.MaxLen"], loops := true, apart := false, laid := [("testbench/lexer.keywords", laid_testbench_lexer_keywords)] }
def MergeConcatenatesSaid : Prop := mergeConcatenatesRow.holds Tryz.pinned (OpenSpec.ofChange mergeConcatenatesSpec)

/-- ITS FALSE NEIGHBOUR: 'it returns false'. Refute it at one input. -/
def mergeConcatenatesWrong : ChangeSpec := { name := "mergeConcatenates", fn := fun _ => fun
  | [d1, d2, d3] => { results := [.lit (.bool false)], args := [d1, d2, d3] }
  | _ => none }
def MergeConcatenatesWrongFalsely : Prop := mergeConcatenatesRow.holds Tryz.pinned (OpenSpec.ofChange mergeConcatenatesWrong)

/- THE SECOND FORM. 'bulk': how many values and letters a reading holds, each counted each time it is reached (what is shared counts as often as it is met; a slice's spare places count too). A statement '..UptoSaid' is the law's where the arguments, and the package variables that the reading takes, are together of bulk at most 1048576: NARROWER than '..Said'. Prove '..Said' where nothing that the law and all that it calls make is longer than what came in: it says more and counts as full. Else prove '..UptoSaid'. A law counts once. -/
mutual
def uptoBulk {H : Type} : DataW H → Nat
  | .lit (.string bytes) => bytes.length + 1
  | .lit _ => 1
  | .nil => 1
  | .ptr d => uptoBulk d + 1
  | .slice elems spare => uptoBulkAll elems + uptoBulkAll spare + 1
  | .agg parts => uptoBulkAll parts + 1
  | .iface _ d => uptoBulk d + 1
  | .map entries => uptoBulkEntries entries + 1
  | .held _ => 1
def uptoBulkAll {H : Type} : List (DataW H) → Nat
  | [] => 0
  | d :: r => uptoBulk d + uptoBulkAll r
def uptoBulkEntries {H : Type} : List (Lit × DataW H) → Nat
  | [] => 0
  | x :: r => uptoBulkEntry x + uptoBulkEntries r
def uptoBulkEntry {H : Type} : Lit × DataW H → Nat
  | (.string bytes, d) => bytes.length + uptoBulk d + 1
  | (_, d) => uptoBulk d + 1
 end
def uptoSmall : (H : Type) → List (DataW H) → Bool := fun _ ds => decide (uptoBulkAll ds ≤ 1048576)
def OpenSpec.upto (s : _root_.Go.ChangeSpec) : _root_.Go.OpenSpec := { _root_.Go.OpenSpec.ofChange s with cond := some uptoSmall }

/-- 'testbenchlaw48.MergeMeasures', WHERE WHAT IT READS IS OF BULK AT MOST 1048576: true; the input reads as it did. -/
def mergeMeasuresUptoRow : OpenClaim := { program := "ytocilianjfhifaagreatdoor", sum := "62382a50a8eda49ca1a5e412fea357b356bca6ea75a7edbf8f0a2db8cd4226af", func := "testbench/testbenchlaw48.MergeMeasures", spec := "mergeMeasures", inPlace := ["internal/bytealg.IndexByteString", "internal/bytealg.IndexString"], unfollowed := true, recurses := true, named := ["testbench/lexer.keywords", "internal/bytealg.MaxLen"], loops := true, apart := false, laid := [("testbench/lexer.keywords", laid_testbench_lexer_keywords)], narrowed := true }
def MergeMeasuresUptoSaid : Prop := mergeMeasuresUptoRow.holds Tryz.pinned (OpenSpec.upto mergeMeasuresSpec)

/-- 'testbenchlaw48.MergeAdds', WHERE WHAT IT READS IS OF BULK AT MOST 1048576: true; the input reads as it did. -/
def mergeAddsUptoRow : OpenClaim := { program := "ytocilianjfhifaagreatdoor", sum := "62382a50a8eda49ca1a5e412fea357b356bca6ea75a7edbf8f0a2db8cd4226af", func := "testbench/testbenchlaw48.MergeAdds", spec := "mergeAdds", inPlace := ["internal/bytealg.IndexByteString", "internal/bytealg.IndexString"], unfollowed := true, recurses := true, named := ["testbench/lexer.keywords", "internal/bytealg.MaxLen"], loops := true, apart := false, laid := [("testbench/lexer.keywords", laid_testbench_lexer_keywords)], narrowed := true }
def MergeAddsUptoSaid : Prop := mergeAddsUptoRow.holds Tryz.pinned (OpenSpec.upto mergeAddsSpec)

/-- 'testbenchlaw48.MergeAlgebra', WHERE WHAT IT READS IS OF BULK AT MOST 1048576: true; the input reads as it did. -/
def mergeAlgebraUptoRow : OpenClaim := { program := "ytocilianjfhifaagreatdoor", sum := "62382a50a8eda49ca1a5e412fea357b356bca6ea75a7edbf8f0a2db8cd4226af", func := "testbench/testbenchlaw48.MergeAlgebra", spec := "mergeAlgebra", inPlace := ["internal/bytealg.IndexByteString", "internal/bytealg.IndexString"], unfollowed := true, recurses := true, named := ["testbench/lexer.keywords", "internal/bytealg.MaxLen"], loops := true, apart := false, laid := [("testbench/lexer.keywords", laid_testbench_lexer_keywords)], narrowed := true }
def MergeAlgebraUptoSaid : Prop := mergeAlgebraUptoRow.holds Tryz.pinned (OpenSpec.upto mergeAlgebraSpec)

/-- 'testbenchlaw48.MergeGains', WHERE WHAT IT READS IS OF BULK AT MOST 1048576: true; the input reads as it did. -/
def mergeGainsUptoRow : OpenClaim := { program := "ytocilianjfhifaagreatdoor", sum := "62382a50a8eda49ca1a5e412fea357b356bca6ea75a7edbf8f0a2db8cd4226af", func := "testbench/testbenchlaw48.MergeGains", spec := "mergeGains", inPlace := ["internal/bytealg.IndexByteString", "internal/bytealg.IndexString"], unfollowed := true, recurses := true, named := ["testbench/lexer.keywords", "internal/bytealg.MaxLen"], loops := true, apart := false, laid := [("testbench/lexer.keywords", laid_testbench_lexer_keywords)], narrowed := true }
def MergeGainsUptoSaid : Prop := mergeGainsUptoRow.holds Tryz.pinned (OpenSpec.upto mergeGainsSpec)

/-- 'testbenchlaw46.CoverPoints', WHERE WHAT IT READS IS OF BULK AT MOST 1048576: true; the input reads as it did. -/
def coverPointsUptoRow : OpenClaim := { program := "ytocilianjfhifaagreatdoor", sum := "62382a50a8eda49ca1a5e412fea357b356bca6ea75a7edbf8f0a2db8cd4226af", func := "testbench/testbenchlaw46.CoverPoints", spec := "coverPoints", inPlace := ["internal/bytealg.IndexByteString", "internal/bytealg.IndexString"], unfollowed := true, recurses := true, named := ["testbench/lexer.keywords", "internal/bytealg.MaxLen"], loops := true, apart := false, laid := [("testbench/lexer.keywords", laid_testbench_lexer_keywords)], narrowed := true }
def CoverPointsUptoSaid : Prop := coverPointsUptoRow.holds Tryz.pinned (OpenSpec.upto coverPointsSpec)

/-- 'testbenchlaw46.CoverRuns', WHERE WHAT IT READS IS OF BULK AT MOST 1048576: true; the input reads as it did. -/
def coverRunsUptoRow : OpenClaim := { program := "ytocilianjfhifaagreatdoor", sum := "62382a50a8eda49ca1a5e412fea357b356bca6ea75a7edbf8f0a2db8cd4226af", func := "testbench/testbenchlaw46.CoverRuns", spec := "coverRuns", inPlace := ["internal/bytealg.IndexByteString", "internal/bytealg.IndexString"], unfollowed := true, recurses := true, named := ["testbench/lexer.keywords", "internal/bytealg.MaxLen"], loops := true, apart := false, laid := [("testbench/lexer.keywords", laid_testbench_lexer_keywords)], narrowed := true }
def CoverRunsUptoSaid : Prop := coverRunsUptoRow.holds Tryz.pinned (OpenSpec.upto coverRunsSpec)

/-- 'testbenchlaw46.CoverCrosses', WHERE WHAT IT READS IS OF BULK AT MOST 1048576: true; the input reads as it did. -/
def coverCrossesUptoRow : OpenClaim := { program := "ytocilianjfhifaagreatdoor", sum := "62382a50a8eda49ca1a5e412fea357b356bca6ea75a7edbf8f0a2db8cd4226af", func := "testbench/testbenchlaw46.CoverCrosses", spec := "coverCrosses", inPlace := ["internal/bytealg.IndexByteString", "internal/bytealg.IndexString"], unfollowed := true, recurses := true, named := ["testbench/lexer.keywords", "internal/bytealg.MaxLen"], loops := true, apart := false, laid := [("testbench/lexer.keywords", laid_testbench_lexer_keywords)], narrowed := true }
def CoverCrossesUptoSaid : Prop := coverCrossesUptoRow.holds Tryz.pinned (OpenSpec.upto coverCrossesSpec)

/-- 'testbenchlaw49.RankGreedy', WHERE WHAT IT READS IS OF BULK AT MOST 1048576: true; the input reads as it did. -/
def rankGreedyUptoRow : OpenClaim := { program := "ytocilianjfhifaagreatdoor", sum := "62382a50a8eda49ca1a5e412fea357b356bca6ea75a7edbf8f0a2db8cd4226af", func := "testbench/testbenchlaw49.RankGreedy", spec := "rankGreedy", inPlace := ["internal/bytealg.IndexByteString", "internal/bytealg.IndexString"], unfollowed := true, recurses := true, named := ["testbench/lexer.keywords", "internal/bytealg.MaxLen"], loops := true, apart := false, laid := [("testbench/lexer.keywords", laid_testbench_lexer_keywords)], narrowed := true }
def RankGreedyUptoSaid : Prop := rankGreedyUptoRow.holds Tryz.pinned (OpenSpec.upto rankGreedySpec)

/-- 'testbenchlaw49.RankNeeds', WHERE WHAT IT READS IS OF BULK AT MOST 1048576: true; the input reads as it did. -/
def rankNeedsUptoRow : OpenClaim := { program := "ytocilianjfhifaagreatdoor", sum := "62382a50a8eda49ca1a5e412fea357b356bca6ea75a7edbf8f0a2db8cd4226af", func := "testbench/testbenchlaw49.RankNeeds", spec := "rankNeeds", inPlace := ["internal/bytealg.IndexByteString", "internal/bytealg.IndexString"], unfollowed := true, recurses := true, named := ["testbench/lexer.keywords", "internal/bytealg.MaxLen"], loops := true, apart := false, laid := [("testbench/lexer.keywords", laid_testbench_lexer_keywords)], narrowed := true }
def RankNeedsUptoSaid : Prop := rankNeedsUptoRow.holds Tryz.pinned (OpenSpec.upto rankNeedsSpec)

/-- 'testbenchlaw49.RankLeast', WHERE WHAT IT READS IS OF BULK AT MOST 1048576: true; the input reads as it did. -/
def rankLeastUptoRow : OpenClaim := { program := "ytocilianjfhifaagreatdoor", sum := "62382a50a8eda49ca1a5e412fea357b356bca6ea75a7edbf8f0a2db8cd4226af", func := "testbench/testbenchlaw49.RankLeast", spec := "rankLeast", inPlace := ["internal/bytealg.IndexByteString", "internal/bytealg.IndexString"], unfollowed := true, recurses := true, named := ["testbench/lexer.keywords", "internal/bytealg.MaxLen"], loops := true, apart := false, laid := [("testbench/lexer.keywords", laid_testbench_lexer_keywords)], narrowed := true }
def RankLeastUptoSaid : Prop := rankLeastUptoRow.holds Tryz.pinned (OpenSpec.upto rankLeastSpec)

/-- 'testbenchlaw46.CoverCounts', WHERE WHAT IT READS IS OF BULK AT MOST 1048576: true; the input reads as it did. -/
def coverCountsUptoRow : OpenClaim := { program := "ytocilianjfhifaagreatdoor", sum := "62382a50a8eda49ca1a5e412fea357b356bca6ea75a7edbf8f0a2db8cd4226af", func := "testbench/testbenchlaw46.CoverCounts", spec := "coverCounts", inPlace := ["internal/bytealg.IndexByteString", "internal/bytealg.IndexString"], unfollowed := true, recurses := true, named := ["testbench/lexer.keywords", "internal/bytealg.MaxLen"], loops := true, apart := false, laid := [("testbench/lexer.keywords", laid_testbench_lexer_keywords)], narrowed := true }
def CoverCountsUptoSaid : Prop := coverCountsUptoRow.holds Tryz.pinned (OpenSpec.upto coverCountsSpec)

/-- 'testbenchlaw46.CoverValids', WHERE WHAT IT READS IS OF BULK AT MOST 1048576: true; the input reads as it did. -/
def coverValidsUptoRow : OpenClaim := { program := "ytocilianjfhifaagreatdoor", sum := "62382a50a8eda49ca1a5e412fea357b356bca6ea75a7edbf8f0a2db8cd4226af", func := "testbench/testbenchlaw46.CoverValids", spec := "coverValids", inPlace := ["internal/bytealg.IndexByteString", "internal/bytealg.IndexString"], unfollowed := true, recurses := true, named := ["testbench/lexer.keywords", "internal/bytealg.MaxLen"], loops := true, apart := false, laid := [("testbench/lexer.keywords", laid_testbench_lexer_keywords)], narrowed := true }
def CoverValidsUptoSaid : Prop := coverValidsUptoRow.holds Tryz.pinned (OpenSpec.upto coverValidsSpec)

/-- 'testbenchlaw46.CoverSamples', WHERE WHAT IT READS IS OF BULK AT MOST 1048576: true; the input reads as it did. -/
def coverSamplesUptoRow : OpenClaim := { program := "ytocilianjfhifaagreatdoor", sum := "62382a50a8eda49ca1a5e412fea357b356bca6ea75a7edbf8f0a2db8cd4226af", func := "testbench/testbenchlaw46.CoverSamples", spec := "coverSamples", inPlace := ["internal/bytealg.IndexByteString", "internal/bytealg.IndexString"], unfollowed := true, recurses := true, named := ["testbench/lexer.keywords", "internal/bytealg.MaxLen"], loops := true, apart := false, laid := [("testbench/lexer.keywords", laid_testbench_lexer_keywords)], narrowed := true }
def CoverSamplesUptoSaid : Prop := coverSamplesUptoRow.holds Tryz.pinned (OpenSpec.upto coverSamplesSpec)

/-- 'testbenchlaw46.CoverContinues', WHERE WHAT IT READS IS OF BULK AT MOST 1048576: true; the input reads as it did. -/
def coverContinuesUptoRow : OpenClaim := { program := "ytocilianjfhifaagreatdoor", sum := "62382a50a8eda49ca1a5e412fea357b356bca6ea75a7edbf8f0a2db8cd4226af", func := "testbench/testbenchlaw46.CoverContinues", spec := "coverContinues", inPlace := ["internal/bytealg.IndexByteString", "internal/bytealg.IndexString"], unfollowed := true, recurses := true, named := ["testbench/lexer.keywords", "internal/bytealg.MaxLen"], loops := true, apart := false, laid := [("testbench/lexer.keywords", laid_testbench_lexer_keywords)], narrowed := true }
def CoverContinuesUptoSaid : Prop := coverContinuesUptoRow.holds Tryz.pinned (OpenSpec.upto coverContinuesSpec)

/-- 'testbenchlaw49.RankReaches', WHERE WHAT IT READS IS OF BULK AT MOST 1048576: true; the input reads as it did. -/
def rankReachesUptoRow : OpenClaim := { program := "ytocilianjfhifaagreatdoor", sum := "62382a50a8eda49ca1a5e412fea357b356bca6ea75a7edbf8f0a2db8cd4226af", func := "testbench/testbenchlaw49.RankReaches", spec := "rankReaches", inPlace := ["internal/bytealg.IndexByteString", "internal/bytealg.IndexString"], unfollowed := true, recurses := true, named := ["testbench/lexer.keywords", "internal/bytealg.MaxLen"], loops := true, apart := false, laid := [("testbench/lexer.keywords", laid_testbench_lexer_keywords)], narrowed := true }
def RankReachesUptoSaid : Prop := rankReachesUptoRow.holds Tryz.pinned (OpenSpec.upto rankReachesSpec)

/-- 'testbenchlaw49.RankContains', WHERE WHAT IT READS IS OF BULK AT MOST 1048576: true; the input reads as it did. -/
def rankContainsUptoRow : OpenClaim := { program := "ytocilianjfhifaagreatdoor", sum := "62382a50a8eda49ca1a5e412fea357b356bca6ea75a7edbf8f0a2db8cd4226af", func := "testbench/testbenchlaw49.RankContains", spec := "rankContains", inPlace := ["internal/bytealg.IndexByteString", "internal/bytealg.IndexString"], unfollowed := true, recurses := true, named := ["testbench/lexer.keywords", "internal/bytealg.MaxLen"], loops := true, apart := false, laid := [("testbench/lexer.keywords", laid_testbench_lexer_keywords)], narrowed := true }
def RankContainsUptoSaid : Prop := rankContainsUptoRow.holds Tryz.pinned (OpenSpec.upto rankContainsSpec)

/-- 'testbenchlaw49.RankSums', WHERE WHAT IT READS IS OF BULK AT MOST 1048576: true; the input reads as it did. -/
def rankSumsUptoRow : OpenClaim := { program := "ytocilianjfhifaagreatdoor", sum := "62382a50a8eda49ca1a5e412fea357b356bca6ea75a7edbf8f0a2db8cd4226af", func := "testbench/testbenchlaw49.RankSums", spec := "rankSums", inPlace := ["internal/bytealg.IndexByteString", "internal/bytealg.IndexString"], unfollowed := true, recurses := true, named := ["testbench/lexer.keywords", "internal/bytealg.MaxLen"], loops := true, apart := false, laid := [("testbench/lexer.keywords", laid_testbench_lexer_keywords)], narrowed := true }
def RankSumsUptoSaid : Prop := rankSumsUptoRow.holds Tryz.pinned (OpenSpec.upto rankSumsSpec)

/-- 'testbenchlaw48.MergeRuns', WHERE WHAT IT READS IS OF BULK AT MOST 1048576: true; the input reads as it did. -/
def mergeRunsUptoRow : OpenClaim := { program := "ytocilianjfhifaagreatdoor", sum := "62382a50a8eda49ca1a5e412fea357b356bca6ea75a7edbf8f0a2db8cd4226af", func := "testbench/testbenchlaw48.MergeRuns", spec := "mergeRuns", inPlace := ["internal/bytealg.IndexByteString", "internal/bytealg.IndexString"], unfollowed := true, recurses := true, named := ["testbench/lexer.keywords", "internal/bytealg.MaxLen"], loops := true, apart := false, laid := [("testbench/lexer.keywords", laid_testbench_lexer_keywords)], narrowed := true }
def MergeRunsUptoSaid : Prop := mergeRunsUptoRow.holds Tryz.pinned (OpenSpec.upto mergeRunsSpec)

/-- 'testbenchlaw48.MergeConcatenates', WHERE WHAT IT READS IS OF BULK AT MOST 1048576: true; the input reads as it did. -/
def mergeConcatenatesUptoRow : OpenClaim := { program := "ytocilianjfhifaagreatdoor", sum := "62382a50a8eda49ca1a5e412fea357b356bca6ea75a7edbf8f0a2db8cd4226af", func := "testbench/testbenchlaw48.MergeConcatenates", spec := "mergeConcatenates", inPlace := ["internal/bytealg.IndexByteString", "internal/bytealg.IndexString"], unfollowed := true, recurses := true, named := ["testbench/lexer.keywords", "internal/bytealg.MaxLen"], loops := true, apart := false, laid := [("testbench/lexer.keywords", laid_testbench_lexer_keywords)], narrowed := true }
def MergeConcatenatesUptoSaid : Prop := mergeConcatenatesUptoRow.holds Tryz.pinned (OpenSpec.upto mergeConcatenatesSpec)

end Rows
end Go.Proofs.YtocilianjfhifaaGreatDoor
