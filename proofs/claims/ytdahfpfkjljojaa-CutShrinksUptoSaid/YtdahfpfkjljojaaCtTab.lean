/- Functions of the program as functions that may fail, and that the code computes them (printed). Each theorem bears its conditions itself. -/
import Derived.Test.YtdahfpfkjljojaaSyf
import Derived.Test.YtdahfpfkjljojaaProg
import Derived.KernelRfl
open Go Go.Proofs.Ytdahfpfkjljojaa.Sy Go.Proofs
set_option maxHeartbeats 4000000
set_option maxRecDepth 100000
set_option cbv.maxSteps 10000000
set_option linter.unusedVariables false
set_option linter.unusedSimpArgs false
namespace Go.Proofs.Ytdahfpfkjljojaa.Ct
def tab : Tab := [none, none, some (.int .i64, true), some (.int .i64, true), some (.bool, true), some (.int .u8, true), some (.int .u8, true), none, none, some (.str, true), some (.str, true), some (.str, true), some (.int .u64, true), none, none, none, none, none, none, none, none, some (.int .i32, true), some (.list (.st [.int .i64, .int .i64, .int .i64]), false), some (.arr 6 (.int .i64), true), some (.arr 6 (.int .i64), true), some (.int .i64, true), none, none, none, none, none, none, none, none, none, none, some (.list (.arr 6 (.int .i64)), false), none, none, some (.st [.int .i64, .int .i64, .int .i64], true), some (.st [.int .i64, .int .i64, .int .i64], true), none, none, none, none, none, none, none, none, some (.int .u64, true), some (.arr 6 (.int .u64), true), none, some (.list (.list (.bool)), false), none, none, none, none, some (.list (.int .i64), false), none, none, none, none, none, none, some (.arr 30 (.int .i64), true), some (.arr 6 (.bool), true), some (.arr 30 (.arr 6 (.bool)), true), some (.arr 6 (.list (.arr 6 (.int .i64))), false), none, none, none, none, some (.list (.bool), false), none, some (.arr 6 (.arr 6 (.int .i64)), true), some (.arr 30 (.arr 6 (.int .i64)), true), none, none, none, none, none, none, none, none, some (.int .u32, true), some (.int .u8, true), some (.int .u8, true), none, none, some (.int .i32, true), some (.int .i32, true)]
theorem tabOk : TabOk Try.prog tab := tabOk_of (by kernel_rfl) (by kernel_rfl)
end Go.Proofs.Ytdahfpfkjljojaa.Ct
