/- Functions of the program as functions that may fail, and that the code computes them (printed). Each theorem bears its conditions itself. -/
import Derived.Test.YtikbileeohddjaaMtDefs
import Derived.Test.YtikbileeohddjaaMtTab
open Go Go.Proofs.Ytikbileeohddjaa.Sy Go.Proofs
set_option maxHeartbeats 4000000
set_option maxRecDepth 100000
set_option cbv.maxSteps 10000000
set_option linter.unusedVariables false
set_option linter.unusedSimpArgs false
namespace Go.Proofs.Ytikbileeohddjaa.Mt
theorem slices_Clone_Lpartkeep_Know_partkeep_Know_runs : SpecRuns Try.prog 15 (oSpec [.list (.st [.int .i64, .int .i64, .int .i64])] [.v] [.list (.st [.int .i64, .int .i64, .int .i64])] [.l .n] fun x => (slices_Clone_Lpartkeep_Know_partkeep_Know x.1).map fun r => (r, ())) := by
  have hsp : SpecsOk Try.prog [] := specsOk_nil
  refine runs_of_o tabOk Try.func15 rfl (Nat.le_of_ble_eq_true rfl) rfl ?_
  rintro E ⟨(s_1 : List ((Int × Int × Int × Unit))), ⟨⟩⟩ y hP H hw
  obtain ⟨z, H1, rfl⟩ := map_out H
  replace H : slices_Clone_Lpartkeep_Know_partkeep_Know s_1 = some z := H1
  clear hw H1
  unfold slices_Clone_Lpartkeep_Know_partkeep_Know at H
  refine tr_keep [0] (σ' := mkSl 8 0 [(0, .val (.list (.st [.int .i64, .int .i64, .int .i64])) .n s_1)]) rfl ?_
  refine tr_seq ?_
  refine tr_rg hP tabOk hsp fun A hA M hM => ?_
  cbv
  refine hM _ ?_
  refine tr_seq ?_
  refine tr_seq ?_
  refine tr_keep [0, 2] (σ' := mkSl 8 0 [(0, .val (.list (.st [.int .i64, .int .i64, .int .i64])) .n s_1), (2, .val (.list (.st [.int .i64, .int .i64, .int .i64])) (.l .n) ([] : List ((Int × Int × Int × Unit))))]) (by subst hA; rfl) ?_
  clear hM hA M A
  refine tr_rg hP tabOk hsp fun A hA M hM => ?_
  cbv
  refine nilq_in hA fun nil_2 hb => ?_
  replace H := nilO_out H nil_2 (by subst hA; exact hb)
  clear hb
  try cbv
  refine hM _ ?_
  refine tr_keep [0, 2, 4] (σ' := mkSl 8 0 [(0, .val (.list (.st [.int .i64, .int .i64, .int .i64])) .n s_1), (2, .val (.list (.st [.int .i64, .int .i64, .int .i64])) (.l .n) ([] : List ((Int × Int × Int × Unit)))), (4, .val (.bool) .n nil_2)]) (by subst hA; rfl) ?_
  clear hM hA M A
  refine tr_cond rfl (fun hc => ?_) (fun hc => ?_)
  · replace H := if_t H hc
    refine tr_seq ?_
    refine tr_rg hP tabOk hsp fun A hA M hM => ?_
    cbv
    refine hM _ ?_
    refine tr_ret ?_
    have hr := Option.some.inj H
    subst hr
    subst hA
    exact rfl
  · replace H := if_f H hc
    refine tr_skip ?_
    refine tr_seq ?_
    refine tr_rg hP tabOk hsp fun A hA M hM => ?_
    cbv
    obtain ⟨ob1, H⟩ := ck_out H
    refine ⟨by subst hA; exact ob1, hM _ ?_⟩
    refine tr_ret ?_
    have hr := Option.some.inj H
    subst hr
    subst hA
    exact rfl
theorem slices_Clone_Lpartkeep_Know_partkeep_Know_sp : ∃ (pg : PT.denL [.list (.st [.int .i64, .int .i64, .int .i64])] → Prop) (fg : PT.denL [.list (.st [.int .i64, .int .i64, .int .i64])] → PT.denL [.list (.st [.int .i64, .int .i64, .int .i64])]), SpecRuns Try.prog 15 ⟨[.list (.st [.int .i64, .int .i64, .int .i64])], [.v], [.list (.st [.int .i64, .int .i64, .int .i64])], [.l .n], pg, fg⟩ ∧ (∀ {a1 : List ((Int × Int × Int × Unit))} {y : List ((Int × Int × Int × Unit))}, slices_Clone_Lpartkeep_Know_partkeep_Know a1 = some y → pg (a1, ()) ∧ y = (fg (a1, ())).1) ∧ (∀ {a1 : List ((Int × Int × Int × Unit))}, (slices_Clone_Lpartkeep_Know_partkeep_Know a1).isSome = true → pg (a1, ())) ∧ ∀ {a1 : List ((Int × Int × Int × Unit))}, (slices_Clone_Lpartkeep_Know_partkeep_Know a1).getD ([] : List ((Int × Int × Int × Unit))) = (fg (a1, ())).1 := by
  obtain ⟨pg, fg, h, hc, hi, hd⟩ := spec_hide slices_Clone_Lpartkeep_Know_partkeep_Know_runs
  refine ⟨pg, fg, h, ?_, ?_, ?_⟩
  · intro a1 y e
    obtain ⟨h1, h2⟩ := hc (a1, ()) (y, ()) (congrArg (Option.map fun r => (r, ())) e)
    exact ⟨h1, by first | (rw [h2]; done) | (rw [h2]; rfl)⟩
  · intro a1
    intro e
    exact hi (a1, ()) (map_isSome e)
  · intro a1
    rw [hd (a1, ())]
    cases slices_Clone_Lpartkeep_Know_partkeep_Know a1 <;> rfl
end Go.Proofs.Ytikbileeohddjaa.Mt
