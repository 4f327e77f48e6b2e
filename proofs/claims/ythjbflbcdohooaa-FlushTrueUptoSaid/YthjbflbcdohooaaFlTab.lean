/- Functions of the program as functions that may fail, and that the code computes them (printed). Each theorem bears its conditions itself. -/
import Derived.Test.YthjbflbcdohooaaSyf
import Derived.Test.YthjbflbcdohooaaProg
import Derived.KernelRfl
open Go Go.Proofs.Ythjbflbcdohooaa.Sy Go.Proofs
set_option maxHeartbeats 4000000
set_option maxRecDepth 100000
set_option cbv.maxSteps 10000000
set_option linter.unusedVariables false
set_option linter.unusedSimpArgs false
namespace Go.Proofs.Ythjbflbcdohooaa.Fl
def tab : Tab := [none, none, some (.ty (.int .i64) true), some (.ty (.int .i64) true), some (.ty (.bool) true), some (.ty (.int .u8) true), some (.ty (.int .u8) true), none, none, some (.ty (.str) true), some (.ty (.str) true), some (.ty (.str) true), some (.ty (.int .u64) true), none, none, none, none, none, none, none, none, some (.ty (.int .i32) true), some (.ty (.st [.int .i64, .int .u8]) true), some (.ty (.st [.int .i64, .int .u8]) true), some (.ty (.list (.int .i64)) false), some (.ty (.arr 6 (.list (.int .i64))) false), some (.ty (.st [.st [.int .i64, .int .u8], .int .u8, .arr 6 (.list (.int .i64))]) false), some (.ty (.st [.st [.int .i64, .int .u8], .int .u8, .arr 6 (.list (.int .i64))]) false), some (.ty (.int .i64) true), none, none, none, none, none, none, none, none, none, none, none, none, none, none, none, none, none, none, none, none, none, some (.ty (.arr 30 (.bool)) true), none, none, some (.ty (.list (.list (.int .i64))) false), none, none, some (.ty (.int .u64) true), none, none, some (.ty (.int .i64) true), none, none, none, none, none, none, none, none, some (.ty (.int .u32) true), none, some (.ty (.int .u64) true), some (.ty (.int .u64) true), none, none, none, some (.ty (.box (.int .i64)) false), none, none, some (.ty (.box (.int .u64)) false), none, none, none, none, none, none, none, none, none, some (.ty (.int .u8) true), some (.ty (.int .u8) true), none, some (.ty (.box (.int .u8)) false), some (.ty (.int .i32) true), some (.ty (.int .i32) true)]
theorem tabOk : TabOk Try.prog tab := tabOk_of (by kernel_rfl) (by kernel_rfl)
end Go.Proofs.Ythjbflbcdohooaa.Fl
