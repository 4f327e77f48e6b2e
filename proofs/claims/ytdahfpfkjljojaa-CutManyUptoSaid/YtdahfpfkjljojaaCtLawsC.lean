/- The runs of the laws CutMany and CutSteps. -/
import Derived.Test.YtdahfpfkjljojaaCutG
import Derived.Test.YtdahfpfkjljojaaCtQCutMany
import Derived.Test.YtdahfpfkjljojaaCtQCutSteps
open Go Go.Proofs.Ytdahfpfkjljojaa.Sy Go.Proofs.Ytdahfpfkjljojaa.Pu
set_option linter.unusedVariables false
namespace Go.Proofs.Ytdahfpfkjljojaa.Ct
theorem many_runs : SpecRuns Try.prog 6 (lawSpec [.list (.st [.int .i64, .int .i64, .int .i64])]) :=
  runs_law CutMany_runs (fun x _ _ hw => by
    obtain ⟨h, ⟨⟩⟩ := x
    exact (congrArg (Option.map fun r => (r, ())) (many_law h)))
theorem steps_runs : SpecRuns Try.prog 7 (lawSpec [.list (.st [.int .i64, .int .i64, .int .i64]), .arr 6 (.int .i64)]) :=
  runs_law CutSteps_runs (fun x _ _ hw => by
    obtain ⟨h, t, ⟨⟩⟩ := x
    exact (congrArg (Option.map fun r => (r, ())) (steps_law h t hw.2.1.1)))
end Go.Proofs.Ytdahfpfkjljojaa.Ct
