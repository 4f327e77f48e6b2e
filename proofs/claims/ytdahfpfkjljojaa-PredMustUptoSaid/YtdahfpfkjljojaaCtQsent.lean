/- Functions of the program as functions that may fail, and that the code computes them (printed). Each theorem bears its conditions itself. -/
import Derived.Test.YtdahfpfkjljojaaCtDefs
import Derived.Test.YtdahfpfkjljojaaCtTab
open Go Go.Proofs.Ytdahfpfkjljojaa.Sy Go.Proofs
set_option maxHeartbeats 4000000
set_option maxRecDepth 100000
set_option cbv.maxSteps 10000000
set_option linter.unusedVariables false
set_option linter.unusedSimpArgs false
namespace Go.Proofs.Ytdahfpfkjljojaa.Ct
theorem sent_runs : SpecRuns Try.prog 13 (oSpec [] [] [.list (.st [.int .i64, .int .i64, .int .i64])] [.l .n] fun x => (sent).map fun r => (r, ())) := by
  have hsp : SpecsOk Try.prog [] := specsOk_nil
  refine runs_of_o tabOk Try.func13 rfl (Nat.le_of_ble_eq_true rfl) rfl ?_
  rintro E ⟨⟨⟩⟩ y hP H hw
  obtain ⟨z, H1, rfl⟩ := map_out H
  replace H : sent = some z := H1
  clear hw H1
  unfold sent at H
  refine tr_keep [] (σ' := mkSl 4 0 []) rfl ?_
  refine tr_seq ?_
  refine tr_rg hP tabOk hsp fun A hA M hM => ?_
  cbv
  refine hM _ ?_
  refine tr_seq ?_
  refine tr_keep [0] (σ' := mkSl 4 0 [(0, .val (.list (.st [.int .i64, .int .i64, .int .i64])) (.l .n) ([] : List ((Int × Int × Int × Unit))))]) (by subst hA; rfl) ?_
  clear hM hA M A
  refine tr_rg hP tabOk hsp fun A hA M hM => ?_
  cbv
  refine hM _ ?_
  refine tr_ret ?_
  have hr := Option.some.inj H
  subst hr
  subst hA
  exact rfl
theorem sent_sp : ∃ (pg : PT.denL [] → Prop) (fg : PT.denL [] → PT.denL [.list (.st [.int .i64, .int .i64, .int .i64])]), SpecRuns Try.prog 13 ⟨[], [], [.list (.st [.int .i64, .int .i64, .int .i64])], [.l .n], pg, fg⟩ ∧ (∀  {y : List ((Int × Int × Int × Unit))}, sent = some y → pg () ∧ y = (fg ()).1) ∧ ((sent).isSome = true → pg ()) ∧ (sent).getD ([] : List ((Int × Int × Int × Unit))) = (fg ()).1 := by
  obtain ⟨pg, fg, h, hc, hi, hd⟩ := spec_hide sent_runs
  refine ⟨pg, fg, h, ?_, ?_, ?_⟩
  · intro  y e
    obtain ⟨h1, h2⟩ := hc () (y, ()) (congrArg (Option.map fun r => (r, ())) e)
    exact ⟨h1, by first | (rw [h2]; done) | (rw [h2]; rfl)⟩
  · skip
    intro e
    exact hi () (map_isSome e)
  · skip
    rw [hd ()]
    cases sent <;> rfl
end Go.Proofs.Ytdahfpfkjljojaa.Ct
