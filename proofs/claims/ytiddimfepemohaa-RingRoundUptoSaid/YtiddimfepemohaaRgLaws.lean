/- The run of the law RingRound. -/
import Derived.Test.YtiddimfepemohaaRgB
import Derived.Test.YtiddimfepemohaaRgQRingRound
open Go Go.Proofs.Ytiddimfepemohaa.Sy Go.Proofs.Ytiddimfepemohaa.Pu
set_option linter.unusedVariables false
namespace Go.Proofs.Ytiddimfepemohaa.Rg
theorem round_runs : SpecRuns Try.prog 3 (lawSpec [.list (.int .i64), .int .i64]) :=
  runs_law RingRound_runs (fun x _ _ _ => by
    obtain ⟨a, h, ⟨⟩⟩ := x
    exact (congrArg (Option.map fun r => (r, ())) (round_law a h)))
end Go.Proofs.Ytiddimfepemohaa.Rg
