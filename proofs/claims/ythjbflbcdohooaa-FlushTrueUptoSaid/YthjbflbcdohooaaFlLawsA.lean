/- The run of the law FlushTrue. -/
import Derived.Test.YthjbflbcdohooaaFlA
import Derived.Test.YthjbflbcdohooaaFlQFlushTrue
open Go Go.Proofs.Ythjbflbcdohooaa.Sy Go.Proofs.Ythjbflbcdohooaa.Pu
set_option linter.unusedVariables false
namespace Go.Proofs.Ythjbflbcdohooaa.Fl
theorem true_runs : SpecRuns Try.prog 3 (lawSpec [.st [.st [.int .i64, .int .u8], .int .u8, .arr 6 (.list (.int .i64))], .int .u8]) :=
  runs_law FlushTrue_runs (fun x _ _ hw => by
    obtain ⟨f, c, ⟨⟩⟩ := x
    exact (congrArg (Option.map fun r => (r, ())) (true_law f c hw.1.1.2.1 hw.1.2.1 hw.1.2.2.1.1 (fun l hl => (hw.1.2.2.1.2 l hl).1))))
end Go.Proofs.Ythjbflbcdohooaa.Fl
