/- The runs of the laws CutGrows, CutMeets. -/
import Derived.Test.YtdahfpfkjljojaaCutC
import Derived.Test.YtdahfpfkjljojaaCtQCutGrows
import Derived.Test.YtdahfpfkjljojaaCtQCutMeets
open Go Go.Proofs.Ytdahfpfkjljojaa.Sy Go.Proofs.Ytdahfpfkjljojaa.Pu
set_option linter.unusedVariables false
namespace Go.Proofs.Ytdahfpfkjljojaa.Ct
theorem grows_runs : SpecRuns Try.prog 3 (lawSpec [.list (.st [.int .i64, .int .i64, .int .i64]), .arr 6 (.int .i64), .arr 6 (.int .i64)]) :=
  runs_law CutGrows_runs (fun x _ _ hw => by
    obtain ⟨h, a, b, ⟨⟩⟩ := x
    exact (congrArg (Option.map fun r => (r, ())) (grows_law h a b hw.2.1.1 hw.2.2.1.1)))
theorem meets_runs : SpecRuns Try.prog 4 (lawSpec [.list (.st [.int .i64, .int .i64, .int .i64]), .arr 6 (.int .i64), .arr 6 (.int .i64)]) :=
  runs_law CutMeets_runs (fun x _ _ hw => by
    obtain ⟨h, a, b, ⟨⟩⟩ := x
    exact (congrArg (Option.map fun r => (r, ())) (meets_law h a b hw.2.1.1 hw.2.2.1.1)))
end Go.Proofs.Ytdahfpfkjljojaa.Ct
