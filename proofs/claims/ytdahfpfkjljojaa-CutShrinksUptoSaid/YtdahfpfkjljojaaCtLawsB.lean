/- The run of the law CutShrinks. -/
import Derived.Test.YtdahfpfkjljojaaCutD
import Derived.Test.YtdahfpfkjljojaaCtQCutShrinks
open Go Go.Proofs.Ytdahfpfkjljojaa.Sy Go.Proofs.Ytdahfpfkjljojaa.Pu
set_option linter.unusedVariables false
namespace Go.Proofs.Ytdahfpfkjljojaa.Ct
theorem shrinks_runs : SpecRuns Try.prog 5 (lawSpec [.list (.st [.int .i64, .int .i64, .int .i64]), .arr 6 (.int .i64), .arr 6 (.int .i64)]) :=
  runs_law CutShrinks_runs (fun x _ _ hw => by
    obtain ⟨h, a, b, ⟨⟩⟩ := x
    exact (congrArg (Option.map fun r => (r, ())) (shrinks_law h a b hw.2.1.1 hw.2.2.1.1)))
end Go.Proofs.Ytdahfpfkjljojaa.Ct
