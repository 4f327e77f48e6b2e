/- The runs of the laws PredMust and PredBoth. -/
import Derived.Test.YtdahfpfkjljojaaCutRest
import Derived.Test.YtdahfpfkjljojaaCtQPredMust
import Derived.Test.YtdahfpfkjljojaaCtQPredBoth
open Go Go.Proofs.Ytdahfpfkjljojaa.Sy Go.Proofs.Ytdahfpfkjljojaa.Pu
set_option linter.unusedVariables false
namespace Go.Proofs.Ytdahfpfkjljojaa.Ct
theorem must_runs : SpecRuns Try.prog 9 (lawSpec [.list (.st [.int .i64, .int .i64, .int .i64]), .arr 6 (.int .u64), .list (.int .i64)]) :=
  runs_law PredMust_runs (fun x _ _ hw => by
    obtain ⟨h, o, t, ⟨⟩⟩ := x
    exact (congrArg (Option.map fun r => (r, ())) (must_law h o t hw.2.2.1.1)))
theorem both_runs : SpecRuns Try.prog 10 (lawSpec [.list (.st [.int .i64, .int .i64, .int .i64]), .arr 6 (.int .u64)]) :=
  runs_law PredBoth_runs (fun x _ _ hw => by
    obtain ⟨h, o, ⟨⟩⟩ := x
    exact (congrArg (Option.map fun r => (r, ())) (both_law h o)))
end Go.Proofs.Ytdahfpfkjljojaa.Ct
