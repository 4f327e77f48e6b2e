/- The run of the law StampLong. -/
import Derived.Test.YtcghecmefpldmaaLong
import Derived.Test.YtcghecmefpldmaaVcQStampLong
open Go Go.Proofs.Ytcghecmefpldmaa.Sy Go.Proofs.Ytcghecmefpldmaa.Pu
set_option linter.unusedVariables false
namespace Go.Proofs.Ytcghecmefpldmaa.Vc
theorem long_runs : SpecRuns Try.prog 10 (lawSpec [.list (.st [.int .i64, .int .i64, .int .i64])]) :=
  runs_law StampLong_runs (fun x _ _ _ => by
    obtain ⟨h, ⟨⟩⟩ := x
    exact (congrArg (Option.map fun r => (r, ())) (long_law h)))
end Go.Proofs.Ytcghecmefpldmaa.Vc
