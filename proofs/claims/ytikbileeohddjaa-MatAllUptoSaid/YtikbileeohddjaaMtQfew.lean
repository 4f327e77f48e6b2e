/- Functions of the program as functions that may fail, and that the code computes them (printed). Each theorem bears its conditions itself. -/
import Derived.Test.YtikbileeohddjaaMtDefs
import Derived.Test.YtikbileeohddjaaMtTab
import Derived.Test.YtikbileeohddjaaMtQRQRest
open Go Go.Proofs.Ytikbileeohddjaa.Sy Go.Proofs
set_option maxHeartbeats 4000000
set_option maxRecDepth 100000
set_option cbv.maxSteps 10000000
set_option linter.unusedVariables false
set_option linter.unusedSimpArgs false
namespace Go.Proofs.Ytikbileeohddjaa.Mt
theorem few_runs : SpecRuns Try.prog 12 (oSpec [.int .i64] [.v] [.int .i64] [.n] fun x => (few x.1).map fun r => (r, ())) := by
  obtain ⟨pg17, fg17, hs17, hc17, hi17, hd17⟩ := R_Rest_sp
  have hsp : SpecsOk Try.prog [(17, ⟨[.int .i64, .int .i64], [.v, .v], [.int .i64], [.n], pg17, fg17⟩)] := (specsOk_cons Try.func17 (by kernel_rfl) (by kernel_rfl) hs17 specsOk_nil)
  refine runs_of_o tabOk Try.func12 rfl (Nat.le_of_ble_eq_true rfl) rfl ?_
  rintro E ⟨(n_1 : Int), ⟨⟩⟩ y hP H hw
  obtain ⟨z, H1, rfl⟩ := map_out H
  replace H : few n_1 = some z := H1
  clear hw H1
  unfold few at H
  refine tr_keep [0] (σ' := mkSl 6 0 [(0, .val (.int .i64) .n n_1)]) rfl ?_
  refine tr_seq ?_
  refine tr_rg hP tabOk hsp fun A hA M hM => ?_
  cbv
  refine hM _ ?_
  refine tr_seq ?_
  refine tr_keep [0] (σ' := mkSl 6 0 [(0, .val (.int .i64) .n n_1)]) (by subst hA; rfl) ?_
  clear hM hA M A
  refine tr_rg hP tabOk hsp fun A hA M hM => ?_
  cbv
  obtain ⟨r_2, hr1, H⟩ := bind_out H
  obtain ⟨pq1, eq1⟩ := hc17 hr1
  refine ⟨by subst hA; subst eq1; exact pq1, hM _ ?_⟩
  refine tr_ret ?_
  have hr := Option.some.inj H
  subst hr
  subst hA
  subst eq1
  exact rfl
theorem few_sp : ∃ (pg : PT.denL [.int .i64] → Prop) (fg : PT.denL [.int .i64] → PT.denL [.int .i64]), SpecRuns Try.prog 12 ⟨[.int .i64], [.v], [.int .i64], [.n], pg, fg⟩ ∧ (∀ {a1 : Int} {y : Int}, few a1 = some y → pg (a1, ()) ∧ y = (fg (a1, ())).1) ∧ (∀ {a1 : Int}, (few a1).isSome = true → pg (a1, ())) ∧ ∀ {a1 : Int}, (few a1).getD (0 : Int) = (fg (a1, ())).1 := by
  obtain ⟨pg, fg, h, hc, hi, hd⟩ := spec_hide few_runs
  refine ⟨pg, fg, h, ?_, ?_, ?_⟩
  · intro a1 y e
    obtain ⟨h1, h2⟩ := hc (a1, ()) (y, ()) (congrArg (Option.map fun r => (r, ())) e)
    exact ⟨h1, by first | (rw [h2]; done) | (rw [h2]; rfl)⟩
  · intro a1
    intro e
    exact hi (a1, ()) (map_isSome e)
  · intro a1
    rw [hd (a1, ())]
    cases few a1 <;> rfl
end Go.Proofs.Ytikbileeohddjaa.Mt
