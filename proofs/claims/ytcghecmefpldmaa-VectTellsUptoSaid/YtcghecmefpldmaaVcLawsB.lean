/- The runs of the laws StampAhead, VectTells. -/
import Derived.Test.YtcghecmefpldmaaHist7
import Derived.Test.YtcghecmefpldmaaVcQStampAhead
import Derived.Test.YtcghecmefpldmaaVcQVectTells
open Go Go.Proofs.Ytcghecmefpldmaa.Sy Go.Proofs.Ytcghecmefpldmaa.Pu
set_option linter.unusedVariables false
namespace Go.Proofs.Ytcghecmefpldmaa.Vc
theorem ahead_runs : SpecRuns Try.prog 8 (lawSpec [.list (.st [.int .i64, .int .i64, .int .i64])]) :=
  runs_law StampAhead_runs (fun x _ _ _ => by
    obtain ⟨h, ⟨⟩⟩ := x
    exact (congrArg (Option.map fun r => (r, ())) (ahead_law h)))
theorem tells_runs : SpecRuns Try.prog 6 (lawSpec [.list (.st [.int .i64, .int .i64, .int .i64])]) :=
  runs_law VectTells_runs (fun x _ _ _ => by
    obtain ⟨h, ⟨⟩⟩ := x
    exact (congrArg (Option.map fun r => (r, ())) (tells_law h)))
end Go.Proofs.Ytcghecmefpldmaa.Vc
