/- Functions of the program as functions that may fail, and that the code computes them (printed). Each theorem bears its conditions itself. -/
import Derived.Test.YtiddimfepemohaaSye
import Derived.Test.YtiddimfepemohaaProg
import Derived.KernelRfl
open Go Go.Proofs.Ytiddimfepemohaa.Sy Go.Proofs
set_option maxHeartbeats 4000000
set_option maxRecDepth 100000
set_option linter.unusedVariables false
set_option linter.unusedSimpArgs false
namespace Go.Proofs.Ytiddimfepemohaa.Rg
def tab : Tab := [none, none, some (.int .i64, true), some (.int .i64, true), some (.bool, true), some (.int .u8, true), some (.int .u8, true), none, none, some (.str, true), some (.str, true), some (.str, true), some (.int .u64, true), none, none, none, none, none, none, none, none, some (.int .i32, true), some (.list (.int .i64), false), some (.int .i64, true), none, none, none, none, none, none, none, none, none, none, some (.list (.list (.int .i64)), false), none, none, none, none, none, none, none, none, none, some (.int .u32, true), some (.int .u8, true), some (.int .u8, true), none, none, some (.int .i32, true), some (.int .i32, true)]
theorem tabOk : TabOk Try.prog tab := tabOk_of (by kernel_rfl) (by kernel_rfl)
end Go.Proofs.Ytiddimfepemohaa.Rg
