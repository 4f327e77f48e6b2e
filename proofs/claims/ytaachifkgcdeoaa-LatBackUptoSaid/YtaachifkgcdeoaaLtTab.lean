/- Functions of the program as functions that may fail, and that the code computes them (printed). Each theorem bears its conditions itself. -/
import Derived.Test.YtaachifkgcdeoaaSyf
import Derived.Test.YtaachifkgcdeoaaProg
import Derived.KernelRfl
open Go Go.Proofs.Ytaachifkgcdeoaa.Sy Go.Proofs
set_option maxHeartbeats 4000000
set_option maxRecDepth 100000
set_option cbv.maxSteps 10000000
set_option linter.unusedVariables false
set_option linter.unusedSimpArgs false
namespace Go.Proofs.Ytaachifkgcdeoaa.Lt
def tab : Tab := [none, none, some (.ty (.int .i64) true), some (.ty (.int .i64) true), some (.ty (.bool) true), some (.ty (.int .u8) true), some (.ty (.int .u8) true), none, none, some (.ty (.str) true), some (.ty (.str) true), some (.ty (.str) true), some (.ty (.int .u64) true), none, none, none, none, none, none, none, none, some (.ty (.int .i32) true), some (.ty (.list (.int .u16)) false), some (.ty (.int .u16) true), some (.ty (.int .i64) true), none, none, none, none, none, none, none, none, none, none, none, some (.ty (.list (.int .i64)) false), none, none, none, none, some (.ty (.list (.st [.int .i64, .int .i64])) false), some (.ty (.st [.int .i64, .list (.st [.int .i64, .int .i64])]) false), some (.ty (.st [.int .i64, .list (.st [.int .i64, .int .i64])]) false), some (.ty (.st [.int .i64, .int .i64]) true), some (.ty (.st [.int .i64, .int .i64]) true), none, none, none, none, none, none, none, none, some (.mp (.int .u16) (.int .i64)), some (.ty (.int .u64) true), some (.ty (.arr 12 (.int .u16)) true), none, none, some (.ty (.box (.arr 20 (.arr 20 (.bool)))) false), none, none, some (.ty (.arr 20 (.bool)) true), some (.ty (.arr 20 (.arr 20 (.bool))) true), some (.ty (.arr 20 (.arr 20 (.bool))) true), none, none, none, none, none, none, none, some (.ty (.int .u32) true), some (.ty (.int .u8) true), some (.ty (.int .u8) true), none, some (.ty (.box (.int .u8)) false), some (.ty (.int .i32) true), some (.ty (.int .i32) true)]
theorem tabOk : TabOk Try.prog tab := tabOk_of (by kernel_rfl) (by kernel_rfl)
end Go.Proofs.Ytaachifkgcdeoaa.Lt
