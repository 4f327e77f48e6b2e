/- The run of the law PredFirst. -/
import Derived.Test.YtdahfpfkjljojaaCutH
import Derived.Test.YtdahfpfkjljojaaCtQPredFirst
open Go Go.Proofs.Ytdahfpfkjljojaa.Sy Go.Proofs.Ytdahfpfkjljojaa.Pu
set_option linter.unusedVariables false
namespace Go.Proofs.Ytdahfpfkjljojaa.Ct
theorem first_runs : SpecRuns Try.prog 8 (lawSpec [.list (.st [.int .i64, .int .i64, .int .i64]), .arr 6 (.int .u64), .arr 6 (.int .i64)]) :=
  runs_law PredFirst_runs (fun x _ _ hw => by
    obtain ⟨h, o, t, ⟨⟩⟩ := x
    exact (congrArg (Option.map fun r => (r, ())) (first_law h o t hw.2.2.1.1)))
end Go.Proofs.Ytdahfpfkjljojaa.Ct
