/- The run of the law LatBack. -/
import Derived.Test.YtaachifkgcdeoaaPoD
import Derived.Test.YtaachifkgcdeoaaLtQLatBack
open Go Go.Proofs.Ytaachifkgcdeoaa.Sy Go.Proofs.Ytaachifkgcdeoaa.Pu
set_option linter.unusedVariables false
namespace Go.Proofs.Ytaachifkgcdeoaa.Lt
theorem back_runs : SpecRuns Try.prog 7 (lawSpec [.st [.int .i64, .list (.st [.int .i64, .int .i64])]]) :=
  runs_law LatBack_runs (fun x _ _ hw => by
    obtain ⟨⟨N, ps, ⟨⟩⟩, ⟨⟩⟩ := x
    exact (congrArg (Option.map fun r => (r, ())) (back_law N ps hw.1.2.1.1)))
end Go.Proofs.Ytaachifkgcdeoaa.Lt
