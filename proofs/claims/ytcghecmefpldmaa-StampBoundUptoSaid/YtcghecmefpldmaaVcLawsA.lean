/- The runs of the laws VectTakes, VectCounts, StampBound, StampFront. -/
import Derived.Test.YtcghecmefpldmaaHist5
import Derived.Test.YtcghecmefpldmaaVcVectTakes
import Derived.Test.YtcghecmefpldmaaVcVectCounts
import Derived.Test.YtcghecmefpldmaaVcStampBound
import Derived.Test.YtcghecmefpldmaaVcStampFront
open Go Go.Proofs.Ytcghecmefpldmaa.Sy Go.Proofs.Ytcghecmefpldmaa.Pu
set_option linter.unusedVariables false
namespace Go.Proofs.Ytcghecmefpldmaa.Vc
theorem takes_runs : SpecRuns Try.prog 4 (lawSpec [.list (.st [.int .i64, .int .i64, .int .i64])]) :=
  runs_law VectTakes_runs (fun x _ _ _ => by
    obtain ⟨h, ⟨⟩⟩ := x
    exact (congrArg (Option.map fun r => (r, ())) (takes_law h)))
theorem counts_runs : SpecRuns Try.prog 5 (lawSpec [.list (.st [.int .i64, .int .i64, .int .i64])]) :=
  runs_law VectCounts_runs (fun x _ _ _ => by
    obtain ⟨h, ⟨⟩⟩ := x
    exact (congrArg (Option.map fun r => (r, ())) (counts_law h)))
theorem bound_runs : SpecRuns Try.prog 7 (lawSpec [.list (.st [.int .i64, .int .i64, .int .i64]), .int .i64]) :=
  runs_law StampBound_runs (fun x _ _ _ => by
    obtain ⟨h, n, ⟨⟩⟩ := x
    exact (congrArg (Option.map fun r => (r, ())) (bound_law h n)))
theorem front_runs : SpecRuns Try.prog 9 (lawSpec [.list (.st [.int .i64, .int .i64, .int .i64]), .int .i64]) :=
  runs_law StampFront_runs (fun x _ _ _ => by
    obtain ⟨h, n, ⟨⟩⟩ := x
    exact (congrArg (Option.map fun r => (r, ())) (front_law h n)))
end Go.Proofs.Ytcghecmefpldmaa.Vc
