/- The run of the law LatStill. -/
import Derived.Test.YtaachifkgcdeoaaLatD
import Derived.Test.YtaachifkgcdeoaaLtQLatStill
open Go Go.Proofs.Ytaachifkgcdeoaa.Sy Go.Proofs.Ytaachifkgcdeoaa.Pu
set_option linter.unusedVariables false
namespace Go.Proofs.Ytaachifkgcdeoaa.Lt
theorem still_runs : SpecRuns Try.prog 5 (lawSpec [.list (.int .u16), .list (.int .i64)]) :=
  runs_law LatStill_runs (fun x _ _ hw => by
    obtain ⟨l, f, ⟨⟩⟩ := x
    exact (congrArg (Option.map fun r => (r, ())) (still_law l f (fun a h => hw.1.2 a h))))
end Go.Proofs.Ytaachifkgcdeoaa.Lt
