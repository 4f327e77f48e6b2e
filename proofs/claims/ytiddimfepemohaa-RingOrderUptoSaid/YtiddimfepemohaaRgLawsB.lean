/- The runs of the laws RingHalves, RingOrder and RingFirst. -/
import Derived.Test.YtiddimfepemohaaRgG
import Derived.Test.YtiddimfepemohaaRgQRingHalves
import Derived.Test.YtiddimfepemohaaRgQRingOrder
import Derived.Test.YtiddimfepemohaaRgQRingFirst
open Go Go.Proofs.Ytiddimfepemohaa.Sy Go.Proofs.Ytiddimfepemohaa.Pu
set_option linter.unusedVariables false
namespace Go.Proofs.Ytiddimfepemohaa.Rg
theorem halves_runs : SpecRuns Try.prog 4 (lawSpec [.list (.int .i64)]) :=
  runs_law RingHalves_runs (fun x _ _ hw => by
    obtain ⟨l, ⟨⟩⟩ := x
    exact (congrArg (Option.map fun r => (r, ())) (halves_law l)))
theorem order_runs : SpecRuns Try.prog 5 (lawSpec [.list (.int .i64)]) :=
  runs_law RingOrder_runs (fun x _ _ hw => by
    obtain ⟨l, ⟨⟩⟩ := x
    exact (congrArg (Option.map fun r => (r, ())) (order_law l hw.1.1)))
theorem first_runs : SpecRuns Try.prog 6 (lawSpec [.list (.int .i64)]) :=
  runs_law RingFirst_runs (fun x _ _ hw => by
    obtain ⟨l, ⟨⟩⟩ := x
    exact (congrArg (Option.map fun r => (r, ())) (first_law l)))
end Go.Proofs.Ytiddimfepemohaa.Rg
