/- The run of the law MatAll. -/
import Derived.Test.YtikbileeohddjaaMtD
import Derived.Test.YtikbileeohddjaaMtQMatAll
open Go Go.Proofs.Ytikbileeohddjaa.Sy Go.Proofs.Ytikbileeohddjaa.Pu
set_option linter.unusedVariables false
namespace Go.Proofs.Ytikbileeohddjaa.Mt
theorem all_runs : SpecRuns Try.prog 6 (lawSpec [.int .i64, .list (.st [.int .i64, .int .i64, .int .i64])]) :=
  runs_law MatAll_runs (fun x _ hb hw => by
    obtain ⟨a, h, ⟨⟩⟩ := x
    exact (congrArg (Option.map fun r => (r, ())) (all_law a h (by
      have h1 := bulk_len (t := .st [.int .i64, .int .i64, .int .i64]) (l := h)
      have h2 : bulk (.int .i64) a + (bulk (.list (.st [.int .i64, .int .i64, .int .i64])) h + 0) ≤ 1048576 := hb
      exact Nat.le_of_lt (Nat.lt_of_lt_of_le h1 (Nat.le_trans (Nat.le_trans (Nat.le_add_right _ _) (Nat.le_add_left _ _)) h2))))))
end Go.Proofs.Ytikbileeohddjaa.Mt
