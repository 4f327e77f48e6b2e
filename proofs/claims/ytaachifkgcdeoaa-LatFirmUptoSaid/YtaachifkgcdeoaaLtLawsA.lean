/- The run of the law LatFirm. -/
import Derived.Test.YtaachifkgcdeoaaLatB
import Derived.Test.YtaachifkgcdeoaaLtQLatFirm
open Go Go.Proofs.Ytaachifkgcdeoaa.Sy Go.Proofs.Ytaachifkgcdeoaa.Pu
set_option linter.unusedVariables false
namespace Go.Proofs.Ytaachifkgcdeoaa.Lt
theorem firm_runs : SpecRuns Try.prog 4 (lawSpec [.list (.int .u16)]) :=
  runs_law LatFirm_runs (fun x _ _ hw => by
    obtain ⟨l, ⟨⟩⟩ := x
    exact (congrArg (Option.map fun r => (r, ())) (firm_law l (fun a h => hw.1.2 a h))))
end Go.Proofs.Ytaachifkgcdeoaa.Lt
