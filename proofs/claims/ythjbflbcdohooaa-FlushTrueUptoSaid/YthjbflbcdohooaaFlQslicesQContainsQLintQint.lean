/- Functions of the program as functions that may fail, and that the code computes them (printed). Each theorem bears its conditions itself. -/
import Derived.Test.YthjbflbcdohooaaFlDefs
import Derived.Test.YthjbflbcdohooaaFlTab
import Derived.Test.YthjbflbcdohooaaFlQslicesQIndexQLintQint
open Go Go.Proofs.Ythjbflbcdohooaa.Sy Go.Proofs
set_option maxHeartbeats 4000000
set_option maxRecDepth 100000
set_option cbv.maxSteps 10000000
set_option linter.unusedVariables false
set_option linter.unusedSimpArgs false
namespace Go.Proofs.Ythjbflbcdohooaa.Fl
theorem slices_Contains_Lint_int_runs : SpecRuns Try.prog 9 (oSpec [.list (.int .i64), .int .i64] [.v, .v] [.bool] [.n] fun x => (slices_Contains_Lint_int x.1 x.2.1).map fun r => (r, ())) := by
  obtain ⟨pg24, fg24, hs24, hc24, hi24, hd24⟩ := slices_Index_Lint_int_sp
  have hsp : SpecsOk Try.prog [(24, ⟨[.list (.int .i64), .int .i64], [.v, .v], [.int .i64], [.n], pg24, fg24⟩)] := (specsOk_cons Try.func24 (by kernel_rfl) (by kernel_rfl) hs24 specsOk_nil)
  refine runs_of_o tabOk Try.func9 rfl (Nat.le_of_ble_eq_true rfl) rfl ?_
  rintro E ⟨(s_1 : List Int), (v_2 : Int), ⟨⟩⟩ y hP H hw
  obtain ⟨z, H1, rfl⟩ := map_out H
  replace H : slices_Contains_Lint_int s_1 v_2 = some z := H1
  clear hw H1
  unfold slices_Contains_Lint_int at H
  refine tr_keep [0, 1] (σ' := mkSl 9 0 [(0, .val (.list (.int .i64)) .n s_1), (1, .val (.int .i64) .n v_2)]) rfl ?_
  refine tr_seq ?_
  refine tr_rg hP tabOk hsp fun A hA M hM => ?_
  cbv
  refine hM _ ?_
  refine tr_seq ?_
  refine tr_keep [0, 1] (σ' := mkSl 9 0 [(0, .val (.list (.int .i64)) .n s_1), (1, .val (.int .i64) .n v_2)]) (by subst hA; rfl) ?_
  clear hM hA M A
  refine tr_rg hP tabOk hsp fun A hA M hM => ?_
  cbv
  obtain ⟨r_3, hr1, H⟩ := bind_out H
  obtain ⟨pq1, eq1⟩ := hc24 hr1
  refine ⟨by subst hA; subst eq1; exact pq1, hM _ ?_⟩
  refine tr_ret ?_
  have hr := Option.some.inj H
  subst hr
  subst hA
  subst eq1
  exact rfl
theorem slices_Contains_Lint_int_sp : ∃ (pg : PT.denL [.list (.int .i64), .int .i64] → Prop) (fg : PT.denL [.list (.int .i64), .int .i64] → PT.denL [.bool]), SpecRuns Try.prog 9 ⟨[.list (.int .i64), .int .i64], [.v, .v], [.bool], [.n], pg, fg⟩ ∧ (∀ {a1 : List Int} {a2 : Int} {y : Bool}, slices_Contains_Lint_int a1 a2 = some y → pg (a1, a2, ()) ∧ y = (fg (a1, a2, ())).1) ∧ (∀ {a1 : List Int} {a2 : Int}, (slices_Contains_Lint_int a1 a2).isSome = true → pg (a1, a2, ())) ∧ ∀ {a1 : List Int} {a2 : Int}, (slices_Contains_Lint_int a1 a2).getD false = (fg (a1, a2, ())).1 := by
  obtain ⟨pg, fg, h, hc, hi, hd⟩ := spec_hide slices_Contains_Lint_int_runs
  refine ⟨pg, fg, h, ?_, ?_, ?_⟩
  · intro a1 a2 y e
    obtain ⟨h1, h2⟩ := hc (a1, a2, ()) (y, ()) (congrArg (Option.map fun r => (r, ())) e)
    exact ⟨h1, by first | (rw [h2]; done) | (rw [h2]; rfl)⟩
  · intro a1 a2
    intro e
    exact hi (a1, a2, ()) (map_isSome e)
  · intro a1 a2
    rw [hd (a1, a2, ())]
    cases slices_Contains_Lint_int a1 a2 <;> rfl
end Go.Proofs.Ythjbflbcdohooaa.Fl
