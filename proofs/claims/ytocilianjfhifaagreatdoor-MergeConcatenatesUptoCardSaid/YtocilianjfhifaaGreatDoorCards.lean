/-
  DERIVED. GIVEN WITH THE SEED: THE CARDS: each row of YtocilianjfhifaaGreatDoorRows.lean that lists a variable, with what it lists TIED to the program's text (the seventh form; the later family's looks); each row that meets fmt, with fmt's text TOLD by the authors' own Lean function (tested against real Go, not proved from fmt's source: count such statements apart). THE CARD IS WHAT COUNTS. Prove the row's statement (the work); the ties are given (YtocilianjfhifaaGreatDoorTie.lean); close each card by the builder's one call (the guide's Derived/Test/ToyasCard.lean, 'card_holds'). Laid BY PROGRAM, IN A SANDBOX (cutbox-door.mjs). By AI agents, Wed Nov 11 2026. No macro, syntax, notation, axiom, sorry.
-/
import Derived.Test.YtocilianjfhifaaGreatDoorRows
import GoSem.ClaimSeven
namespace Go.Proofs.YtocilianjfhifaaGreatDoor
namespace Rows

/-- THE TIED CARD OF 'testbenchlaw48.MergeMeasures'. -/
def mergeMeasuresCard : Claim7 := { stood := { row := mergeMeasuresRow, standIns := [], harness := (true, "da499e8c71afdf3fdb64ec2e349b4b0523ddb4a506eee6db08807b8a5bdf81df"), looks := false }, kinds := [], alts := [], laidByText := true, laidKinds := [.widerDeep], laidTests := true, laidLooks := .later }
def MergeMeasuresCardSaid : Prop := Claim7.holds Tryz.pinned (.plain (OpenSpec.ofChange mergeMeasuresSpec)) mergeMeasuresCard

/-- THE TIED CARD OF 'testbenchlaw48.MergeAdds'. -/
def mergeAddsCard : Claim7 := { stood := { row := mergeAddsRow, standIns := [], harness := (true, "da499e8c71afdf3fdb64ec2e349b4b0523ddb4a506eee6db08807b8a5bdf81df"), looks := false }, kinds := [], alts := [], laidByText := true, laidKinds := [.widerDeep], laidTests := true, laidLooks := .later }
def MergeAddsCardSaid : Prop := Claim7.holds Tryz.pinned (.plain (OpenSpec.ofChange mergeAddsSpec)) mergeAddsCard

/-- THE TIED CARD OF 'testbenchlaw48.MergeAlgebra'. -/
def mergeAlgebraCard : Claim7 := { stood := { row := mergeAlgebraRow, standIns := [], harness := (true, "da499e8c71afdf3fdb64ec2e349b4b0523ddb4a506eee6db08807b8a5bdf81df"), looks := false }, kinds := [], alts := [], laidByText := true, laidKinds := [.widerDeep], laidTests := true, laidLooks := .later }
def MergeAlgebraCardSaid : Prop := Claim7.holds Tryz.pinned (.plain (OpenSpec.ofChange mergeAlgebraSpec)) mergeAlgebraCard

/-- THE TIED CARD OF 'testbenchlaw48.MergeGains'. -/
def mergeGainsCard : Claim7 := { stood := { row := mergeGainsRow, standIns := [], harness := (true, "da499e8c71afdf3fdb64ec2e349b4b0523ddb4a506eee6db08807b8a5bdf81df"), looks := false }, kinds := [], alts := [], laidByText := true, laidKinds := [.widerDeep], laidTests := true, laidLooks := .later }
def MergeGainsCardSaid : Prop := Claim7.holds Tryz.pinned (.plain (OpenSpec.ofChange mergeGainsSpec)) mergeGainsCard

/-- THE TIED CARD OF 'testbenchlaw46.CoverPoints'. -/
def coverPointsCard : Claim7 := { stood := { row := coverPointsRow, standIns := [], harness := (true, "da499e8c71afdf3fdb64ec2e349b4b0523ddb4a506eee6db08807b8a5bdf81df"), looks := false }, kinds := [], alts := [], laidByText := true, laidKinds := [.widerDeep], laidTests := true, laidLooks := .later }
def CoverPointsCardSaid : Prop := Claim7.holds Tryz.pinned (.plain (OpenSpec.ofChange coverPointsSpec)) coverPointsCard

/-- THE TIED CARD OF 'testbenchlaw46.CoverRuns'. -/
def coverRunsCard : Claim7 := { stood := { row := coverRunsRow, standIns := [], harness := (true, "da499e8c71afdf3fdb64ec2e349b4b0523ddb4a506eee6db08807b8a5bdf81df"), looks := false }, kinds := [], alts := [], laidByText := true, laidKinds := [.widerDeep], laidTests := true, laidLooks := .later }
def CoverRunsCardSaid : Prop := Claim7.holds Tryz.pinned (.plain (OpenSpec.ofChange coverRunsSpec)) coverRunsCard

/-- THE TIED CARD OF 'testbenchlaw46.CoverCrosses'. -/
def coverCrossesCard : Claim7 := { stood := { row := coverCrossesRow, standIns := [], harness := (true, "da499e8c71afdf3fdb64ec2e349b4b0523ddb4a506eee6db08807b8a5bdf81df"), looks := false }, kinds := [], alts := [], laidByText := true, laidKinds := [.widerDeep], laidTests := true, laidLooks := .later }
def CoverCrossesCardSaid : Prop := Claim7.holds Tryz.pinned (.plain (OpenSpec.ofChange coverCrossesSpec)) coverCrossesCard

/-- THE TIED CARD OF 'testbenchlaw49.RankGreedy'. -/
def rankGreedyCard : Claim7 := { stood := { row := rankGreedyRow, standIns := [], harness := (true, "da499e8c71afdf3fdb64ec2e349b4b0523ddb4a506eee6db08807b8a5bdf81df"), looks := false }, kinds := [], alts := [], laidByText := true, laidKinds := [.widerDeep], laidTests := true, laidLooks := .later }
def RankGreedyCardSaid : Prop := Claim7.holds Tryz.pinned (.plain (OpenSpec.ofChange rankGreedySpec)) rankGreedyCard

/-- THE TIED CARD OF 'testbenchlaw49.RankNeeds'. -/
def rankNeedsCard : Claim7 := { stood := { row := rankNeedsRow, standIns := [], harness := (true, "da499e8c71afdf3fdb64ec2e349b4b0523ddb4a506eee6db08807b8a5bdf81df"), looks := false }, kinds := [], alts := [], laidByText := true, laidKinds := [.widerDeep], laidTests := true, laidLooks := .later }
def RankNeedsCardSaid : Prop := Claim7.holds Tryz.pinned (.plain (OpenSpec.ofChange rankNeedsSpec)) rankNeedsCard

/-- THE TIED CARD OF 'testbenchlaw49.RankLeast'. -/
def rankLeastCard : Claim7 := { stood := { row := rankLeastRow, standIns := [], harness := (true, "da499e8c71afdf3fdb64ec2e349b4b0523ddb4a506eee6db08807b8a5bdf81df"), looks := false }, kinds := [], alts := [], laidByText := true, laidKinds := [.widerDeep], laidTests := true, laidLooks := .later }
def RankLeastCardSaid : Prop := Claim7.holds Tryz.pinned (.plain (OpenSpec.ofChange rankLeastSpec)) rankLeastCard

/-- THE TIED CARD OF 'testbenchlaw46.CoverCounts'. -/
def coverCountsCard : Claim7 := { stood := { row := coverCountsRow, standIns := [], harness := (true, "da499e8c71afdf3fdb64ec2e349b4b0523ddb4a506eee6db08807b8a5bdf81df"), looks := false }, kinds := [], alts := [], laidByText := true, laidKinds := [.widerDeep], laidTests := true, laidLooks := .later }
def CoverCountsCardSaid : Prop := Claim7.holds Tryz.pinned (.plain (OpenSpec.ofChange coverCountsSpec)) coverCountsCard

/-- THE TIED CARD OF 'testbenchlaw46.CoverValids'. -/
def coverValidsCard : Claim7 := { stood := { row := coverValidsRow, standIns := [], harness := (true, "da499e8c71afdf3fdb64ec2e349b4b0523ddb4a506eee6db08807b8a5bdf81df"), looks := false }, kinds := [], alts := [], laidByText := true, laidKinds := [.widerDeep], laidTests := true, laidLooks := .later }
def CoverValidsCardSaid : Prop := Claim7.holds Tryz.pinned (.plain (OpenSpec.ofChange coverValidsSpec)) coverValidsCard

/-- THE TIED CARD OF 'testbenchlaw46.CoverSamples'. -/
def coverSamplesCard : Claim7 := { stood := { row := coverSamplesRow, standIns := [], harness := (true, "da499e8c71afdf3fdb64ec2e349b4b0523ddb4a506eee6db08807b8a5bdf81df"), looks := false }, kinds := [], alts := [], laidByText := true, laidKinds := [.widerDeep], laidTests := true, laidLooks := .later }
def CoverSamplesCardSaid : Prop := Claim7.holds Tryz.pinned (.plain (OpenSpec.ofChange coverSamplesSpec)) coverSamplesCard

/-- THE TIED CARD OF 'testbenchlaw46.CoverContinues'. -/
def coverContinuesCard : Claim7 := { stood := { row := coverContinuesRow, standIns := [], harness := (true, "da499e8c71afdf3fdb64ec2e349b4b0523ddb4a506eee6db08807b8a5bdf81df"), looks := false }, kinds := [], alts := [], laidByText := true, laidKinds := [.widerDeep], laidTests := true, laidLooks := .later }
def CoverContinuesCardSaid : Prop := Claim7.holds Tryz.pinned (.plain (OpenSpec.ofChange coverContinuesSpec)) coverContinuesCard

/-- THE TIED CARD OF 'testbenchlaw49.RankReaches'. -/
def rankReachesCard : Claim7 := { stood := { row := rankReachesRow, standIns := [], harness := (true, "da499e8c71afdf3fdb64ec2e349b4b0523ddb4a506eee6db08807b8a5bdf81df"), looks := false }, kinds := [], alts := [], laidByText := true, laidKinds := [.widerDeep], laidTests := true, laidLooks := .later }
def RankReachesCardSaid : Prop := Claim7.holds Tryz.pinned (.plain (OpenSpec.ofChange rankReachesSpec)) rankReachesCard

/-- THE TIED CARD OF 'testbenchlaw49.RankContains'. -/
def rankContainsCard : Claim7 := { stood := { row := rankContainsRow, standIns := [], harness := (true, "da499e8c71afdf3fdb64ec2e349b4b0523ddb4a506eee6db08807b8a5bdf81df"), looks := false }, kinds := [], alts := [], laidByText := true, laidKinds := [.widerDeep], laidTests := true, laidLooks := .later }
def RankContainsCardSaid : Prop := Claim7.holds Tryz.pinned (.plain (OpenSpec.ofChange rankContainsSpec)) rankContainsCard

/-- THE TIED CARD OF 'testbenchlaw49.RankSums'. -/
def rankSumsCard : Claim7 := { stood := { row := rankSumsRow, standIns := [], harness := (true, "da499e8c71afdf3fdb64ec2e349b4b0523ddb4a506eee6db08807b8a5bdf81df"), looks := false }, kinds := [], alts := [], laidByText := true, laidKinds := [.widerDeep], laidTests := true, laidLooks := .later }
def RankSumsCardSaid : Prop := Claim7.holds Tryz.pinned (.plain (OpenSpec.ofChange rankSumsSpec)) rankSumsCard

/-- THE TIED CARD OF 'testbenchlaw48.MergeRuns'. -/
def mergeRunsCard : Claim7 := { stood := { row := mergeRunsRow, standIns := [], harness := (true, "da499e8c71afdf3fdb64ec2e349b4b0523ddb4a506eee6db08807b8a5bdf81df"), looks := false }, kinds := [], alts := [], laidByText := true, laidKinds := [.widerDeep], laidTests := true, laidLooks := .later }
def MergeRunsCardSaid : Prop := Claim7.holds Tryz.pinned (.plain (OpenSpec.ofChange mergeRunsSpec)) mergeRunsCard

/-- THE TIED CARD OF 'testbenchlaw48.MergeConcatenates'. -/
def mergeConcatenatesCard : Claim7 := { stood := { row := mergeConcatenatesRow, standIns := [], harness := (true, "da499e8c71afdf3fdb64ec2e349b4b0523ddb4a506eee6db08807b8a5bdf81df"), looks := false }, kinds := [], alts := [], laidByText := true, laidKinds := [.widerDeep], laidTests := true, laidLooks := .later }
def MergeConcatenatesCardSaid : Prop := Claim7.holds Tryz.pinned (.plain (OpenSpec.ofChange mergeConcatenatesSpec)) mergeConcatenatesCard

/-- THE SECOND FORM's CARD OF 'testbenchlaw48.MergeMeasures'. -/
def mergeMeasuresUptoCard : Claim7 := { stood := { row := mergeMeasuresUptoRow, standIns := [], harness := (true, "da499e8c71afdf3fdb64ec2e349b4b0523ddb4a506eee6db08807b8a5bdf81df"), looks := false }, kinds := [], alts := [], laidByText := true, laidKinds := [.widerDeep], laidTests := true, laidLooks := .later }
def MergeMeasuresUptoCardSaid : Prop := Claim7.holds Tryz.pinned (.plain (OpenSpec.upto mergeMeasuresSpec)) mergeMeasuresUptoCard

/-- THE SECOND FORM's CARD OF 'testbenchlaw48.MergeAdds'. -/
def mergeAddsUptoCard : Claim7 := { stood := { row := mergeAddsUptoRow, standIns := [], harness := (true, "da499e8c71afdf3fdb64ec2e349b4b0523ddb4a506eee6db08807b8a5bdf81df"), looks := false }, kinds := [], alts := [], laidByText := true, laidKinds := [.widerDeep], laidTests := true, laidLooks := .later }
def MergeAddsUptoCardSaid : Prop := Claim7.holds Tryz.pinned (.plain (OpenSpec.upto mergeAddsSpec)) mergeAddsUptoCard

/-- THE SECOND FORM's CARD OF 'testbenchlaw48.MergeAlgebra'. -/
def mergeAlgebraUptoCard : Claim7 := { stood := { row := mergeAlgebraUptoRow, standIns := [], harness := (true, "da499e8c71afdf3fdb64ec2e349b4b0523ddb4a506eee6db08807b8a5bdf81df"), looks := false }, kinds := [], alts := [], laidByText := true, laidKinds := [.widerDeep], laidTests := true, laidLooks := .later }
def MergeAlgebraUptoCardSaid : Prop := Claim7.holds Tryz.pinned (.plain (OpenSpec.upto mergeAlgebraSpec)) mergeAlgebraUptoCard

/-- THE SECOND FORM's CARD OF 'testbenchlaw48.MergeGains'. -/
def mergeGainsUptoCard : Claim7 := { stood := { row := mergeGainsUptoRow, standIns := [], harness := (true, "da499e8c71afdf3fdb64ec2e349b4b0523ddb4a506eee6db08807b8a5bdf81df"), looks := false }, kinds := [], alts := [], laidByText := true, laidKinds := [.widerDeep], laidTests := true, laidLooks := .later }
def MergeGainsUptoCardSaid : Prop := Claim7.holds Tryz.pinned (.plain (OpenSpec.upto mergeGainsSpec)) mergeGainsUptoCard

/-- THE SECOND FORM's CARD OF 'testbenchlaw46.CoverPoints'. -/
def coverPointsUptoCard : Claim7 := { stood := { row := coverPointsUptoRow, standIns := [], harness := (true, "da499e8c71afdf3fdb64ec2e349b4b0523ddb4a506eee6db08807b8a5bdf81df"), looks := false }, kinds := [], alts := [], laidByText := true, laidKinds := [.widerDeep], laidTests := true, laidLooks := .later }
def CoverPointsUptoCardSaid : Prop := Claim7.holds Tryz.pinned (.plain (OpenSpec.upto coverPointsSpec)) coverPointsUptoCard

/-- THE SECOND FORM's CARD OF 'testbenchlaw46.CoverRuns'. -/
def coverRunsUptoCard : Claim7 := { stood := { row := coverRunsUptoRow, standIns := [], harness := (true, "da499e8c71afdf3fdb64ec2e349b4b0523ddb4a506eee6db08807b8a5bdf81df"), looks := false }, kinds := [], alts := [], laidByText := true, laidKinds := [.widerDeep], laidTests := true, laidLooks := .later }
def CoverRunsUptoCardSaid : Prop := Claim7.holds Tryz.pinned (.plain (OpenSpec.upto coverRunsSpec)) coverRunsUptoCard

/-- THE SECOND FORM's CARD OF 'testbenchlaw46.CoverCrosses'. -/
def coverCrossesUptoCard : Claim7 := { stood := { row := coverCrossesUptoRow, standIns := [], harness := (true, "da499e8c71afdf3fdb64ec2e349b4b0523ddb4a506eee6db08807b8a5bdf81df"), looks := false }, kinds := [], alts := [], laidByText := true, laidKinds := [.widerDeep], laidTests := true, laidLooks := .later }
def CoverCrossesUptoCardSaid : Prop := Claim7.holds Tryz.pinned (.plain (OpenSpec.upto coverCrossesSpec)) coverCrossesUptoCard

/-- THE SECOND FORM's CARD OF 'testbenchlaw49.RankGreedy'. -/
def rankGreedyUptoCard : Claim7 := { stood := { row := rankGreedyUptoRow, standIns := [], harness := (true, "da499e8c71afdf3fdb64ec2e349b4b0523ddb4a506eee6db08807b8a5bdf81df"), looks := false }, kinds := [], alts := [], laidByText := true, laidKinds := [.widerDeep], laidTests := true, laidLooks := .later }
def RankGreedyUptoCardSaid : Prop := Claim7.holds Tryz.pinned (.plain (OpenSpec.upto rankGreedySpec)) rankGreedyUptoCard

/-- THE SECOND FORM's CARD OF 'testbenchlaw49.RankNeeds'. -/
def rankNeedsUptoCard : Claim7 := { stood := { row := rankNeedsUptoRow, standIns := [], harness := (true, "da499e8c71afdf3fdb64ec2e349b4b0523ddb4a506eee6db08807b8a5bdf81df"), looks := false }, kinds := [], alts := [], laidByText := true, laidKinds := [.widerDeep], laidTests := true, laidLooks := .later }
def RankNeedsUptoCardSaid : Prop := Claim7.holds Tryz.pinned (.plain (OpenSpec.upto rankNeedsSpec)) rankNeedsUptoCard

/-- THE SECOND FORM's CARD OF 'testbenchlaw49.RankLeast'. -/
def rankLeastUptoCard : Claim7 := { stood := { row := rankLeastUptoRow, standIns := [], harness := (true, "da499e8c71afdf3fdb64ec2e349b4b0523ddb4a506eee6db08807b8a5bdf81df"), looks := false }, kinds := [], alts := [], laidByText := true, laidKinds := [.widerDeep], laidTests := true, laidLooks := .later }
def RankLeastUptoCardSaid : Prop := Claim7.holds Tryz.pinned (.plain (OpenSpec.upto rankLeastSpec)) rankLeastUptoCard

/-- THE SECOND FORM's CARD OF 'testbenchlaw46.CoverCounts'. -/
def coverCountsUptoCard : Claim7 := { stood := { row := coverCountsUptoRow, standIns := [], harness := (true, "da499e8c71afdf3fdb64ec2e349b4b0523ddb4a506eee6db08807b8a5bdf81df"), looks := false }, kinds := [], alts := [], laidByText := true, laidKinds := [.widerDeep], laidTests := true, laidLooks := .later }
def CoverCountsUptoCardSaid : Prop := Claim7.holds Tryz.pinned (.plain (OpenSpec.upto coverCountsSpec)) coverCountsUptoCard

/-- THE SECOND FORM's CARD OF 'testbenchlaw46.CoverValids'. -/
def coverValidsUptoCard : Claim7 := { stood := { row := coverValidsUptoRow, standIns := [], harness := (true, "da499e8c71afdf3fdb64ec2e349b4b0523ddb4a506eee6db08807b8a5bdf81df"), looks := false }, kinds := [], alts := [], laidByText := true, laidKinds := [.widerDeep], laidTests := true, laidLooks := .later }
def CoverValidsUptoCardSaid : Prop := Claim7.holds Tryz.pinned (.plain (OpenSpec.upto coverValidsSpec)) coverValidsUptoCard

/-- THE SECOND FORM's CARD OF 'testbenchlaw46.CoverSamples'. -/
def coverSamplesUptoCard : Claim7 := { stood := { row := coverSamplesUptoRow, standIns := [], harness := (true, "da499e8c71afdf3fdb64ec2e349b4b0523ddb4a506eee6db08807b8a5bdf81df"), looks := false }, kinds := [], alts := [], laidByText := true, laidKinds := [.widerDeep], laidTests := true, laidLooks := .later }
def CoverSamplesUptoCardSaid : Prop := Claim7.holds Tryz.pinned (.plain (OpenSpec.upto coverSamplesSpec)) coverSamplesUptoCard

/-- THE SECOND FORM's CARD OF 'testbenchlaw46.CoverContinues'. -/
def coverContinuesUptoCard : Claim7 := { stood := { row := coverContinuesUptoRow, standIns := [], harness := (true, "da499e8c71afdf3fdb64ec2e349b4b0523ddb4a506eee6db08807b8a5bdf81df"), looks := false }, kinds := [], alts := [], laidByText := true, laidKinds := [.widerDeep], laidTests := true, laidLooks := .later }
def CoverContinuesUptoCardSaid : Prop := Claim7.holds Tryz.pinned (.plain (OpenSpec.upto coverContinuesSpec)) coverContinuesUptoCard

/-- THE SECOND FORM's CARD OF 'testbenchlaw49.RankReaches'. -/
def rankReachesUptoCard : Claim7 := { stood := { row := rankReachesUptoRow, standIns := [], harness := (true, "da499e8c71afdf3fdb64ec2e349b4b0523ddb4a506eee6db08807b8a5bdf81df"), looks := false }, kinds := [], alts := [], laidByText := true, laidKinds := [.widerDeep], laidTests := true, laidLooks := .later }
def RankReachesUptoCardSaid : Prop := Claim7.holds Tryz.pinned (.plain (OpenSpec.upto rankReachesSpec)) rankReachesUptoCard

/-- THE SECOND FORM's CARD OF 'testbenchlaw49.RankContains'. -/
def rankContainsUptoCard : Claim7 := { stood := { row := rankContainsUptoRow, standIns := [], harness := (true, "da499e8c71afdf3fdb64ec2e349b4b0523ddb4a506eee6db08807b8a5bdf81df"), looks := false }, kinds := [], alts := [], laidByText := true, laidKinds := [.widerDeep], laidTests := true, laidLooks := .later }
def RankContainsUptoCardSaid : Prop := Claim7.holds Tryz.pinned (.plain (OpenSpec.upto rankContainsSpec)) rankContainsUptoCard

/-- THE SECOND FORM's CARD OF 'testbenchlaw49.RankSums'. -/
def rankSumsUptoCard : Claim7 := { stood := { row := rankSumsUptoRow, standIns := [], harness := (true, "da499e8c71afdf3fdb64ec2e349b4b0523ddb4a506eee6db08807b8a5bdf81df"), looks := false }, kinds := [], alts := [], laidByText := true, laidKinds := [.widerDeep], laidTests := true, laidLooks := .later }
def RankSumsUptoCardSaid : Prop := Claim7.holds Tryz.pinned (.plain (OpenSpec.upto rankSumsSpec)) rankSumsUptoCard

/-- THE SECOND FORM's CARD OF 'testbenchlaw48.MergeRuns'. -/
def mergeRunsUptoCard : Claim7 := { stood := { row := mergeRunsUptoRow, standIns := [], harness := (true, "da499e8c71afdf3fdb64ec2e349b4b0523ddb4a506eee6db08807b8a5bdf81df"), looks := false }, kinds := [], alts := [], laidByText := true, laidKinds := [.widerDeep], laidTests := true, laidLooks := .later }
def MergeRunsUptoCardSaid : Prop := Claim7.holds Tryz.pinned (.plain (OpenSpec.upto mergeRunsSpec)) mergeRunsUptoCard

/-- THE SECOND FORM's CARD OF 'testbenchlaw48.MergeConcatenates'. -/
def mergeConcatenatesUptoCard : Claim7 := { stood := { row := mergeConcatenatesUptoRow, standIns := [], harness := (true, "da499e8c71afdf3fdb64ec2e349b4b0523ddb4a506eee6db08807b8a5bdf81df"), looks := false }, kinds := [], alts := [], laidByText := true, laidKinds := [.widerDeep], laidTests := true, laidLooks := .later }
def MergeConcatenatesUptoCardSaid : Prop := Claim7.holds Tryz.pinned (.plain (OpenSpec.upto mergeConcatenatesSpec)) mergeConcatenatesUptoCard
end Rows
end Go.Proofs.YtocilianjfhifaaGreatDoor
