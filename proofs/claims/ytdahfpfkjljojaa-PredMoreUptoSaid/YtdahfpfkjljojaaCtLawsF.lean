/- The run of the law PredMore. -/
import Derived.Test.YtdahfpfkjljojaaCutRest
import Derived.Test.YtdahfpfkjljojaaCtQPredMore
open Go Go.Proofs.Ytdahfpfkjljojaa.Sy Go.Proofs.Ytdahfpfkjljojaa.Pu
set_option linter.unusedVariables false
namespace Go.Proofs.Ytdahfpfkjljojaa.Ct
theorem more_runs : SpecRuns Try.prog 11 (lawSpec [.list (.st [.int .i64, .int .i64, .int .i64]), .arr 6 (.int .u64), .arr 6 (.int .u64)]) :=
  runs_law PredMore_runs (fun x _ _ hw => by
    obtain ⟨h, a, b, ⟨⟩⟩ := x
    exact (congrArg (Option.map fun r => (r, ())) (more_law h a b hw.2.1.1 hw.2.2.1.1 (fun y hy => hw.2.1.2 y hy) (fun y hy => hw.2.2.1.2 y hy))))
end Go.Proofs.Ytdahfpfkjljojaa.Ct
