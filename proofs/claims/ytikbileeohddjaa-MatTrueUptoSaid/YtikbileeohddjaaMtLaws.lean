/- The run of the law MatTrue. -/
import Derived.Test.YtikbileeohddjaaMtC
import Derived.Test.YtikbileeohddjaaMtQMatTrue
open Go Go.Proofs.Ytikbileeohddjaa.Sy Go.Proofs.Ytikbileeohddjaa.Pu
set_option linter.unusedVariables false
namespace Go.Proofs.Ytikbileeohddjaa.Mt
theorem true_runs : SpecRuns Try.prog 4 (lawSpec [.int .i64, .list (.st [.int .i64, .int .i64, .int .i64])]) :=
  runs_law MatTrue_runs (fun x _ _ hw => by
    obtain ⟨a, h, ⟨⟩⟩ := x
    exact (congrArg (Option.map fun r => (r, ())) (true_law a h hw.2.1.1)))
end Go.Proofs.Ytikbileeohddjaa.Mt
