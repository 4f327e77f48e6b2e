/- The run of the law LatLaws. -/
import Derived.Test.YtaachifkgcdeoaaLatC
import Derived.Test.YtaachifkgcdeoaaLtQLatLaws
open Go Go.Proofs.Ytaachifkgcdeoaa.Sy Go.Proofs.Ytaachifkgcdeoaa.Pu
set_option linter.unusedVariables false
namespace Go.Proofs.Ytaachifkgcdeoaa.Lt
theorem laws_runs : SpecRuns Try.prog 3 (lawSpec [.list (.int .u16), .int .i64, .int .i64, .int .i64]) :=
  runs_law LatLaws_runs (fun x _ _ hw => by
    obtain ⟨l, a, b, c, ⟨⟩⟩ := x
    exact (congrArg (Option.map fun r => (r, ())) (laws_law l a b c (fun a h => hw.1.2 a h) hw.2.1 hw.2.2.1 hw.2.2.2.1)))
end Go.Proofs.Ytaachifkgcdeoaa.Lt
