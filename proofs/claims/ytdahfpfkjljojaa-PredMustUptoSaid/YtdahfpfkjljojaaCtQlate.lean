/- Functions of the program as functions that may fail, and that the code computes them (printed). Each theorem bears its conditions itself. -/
import Derived.Test.YtdahfpfkjljojaaCtDefs
import Derived.Test.YtdahfpfkjljojaaCtTab
import Derived.Test.YtdahfpfkjljojaaCtQanyTruth
open Go Go.Proofs.Ytdahfpfkjljojaa.Sy Go.Proofs
set_option maxHeartbeats 4000000
set_option maxRecDepth 100000
set_option cbv.maxSteps 10000000
set_option linter.unusedVariables false
set_option linter.unusedSimpArgs false
namespace Go.Proofs.Ytdahfpfkjljojaa.Ct
theorem late_runs : SpecRuns Try.prog 29 (oSpec [.list (.st [.int .i64, .int .i64, .int .i64])] [.v] [.list (.list (.bool))] [.l (.l .n)] fun x => (late x.1).map fun r => (r, ())) := by
  obtain ⟨pg30, fg30, hs30, hc30, hi30, hd30⟩ := anyTruth_sp
  have hsp : SpecsOk Try.prog [(30, ⟨[.list (.st [.int .i64, .int .i64, .int .i64]), .arr 6 (.int .u64)], [.v, .v], [.list (.list (.bool))], [.l (.l .n)], pg30, fg30⟩)] := (specsOk_cons Try.func30 (by kernel_rfl) (by kernel_rfl) hs30 specsOk_nil)
  refine runs_of_o tabOk Try.func29 rfl (Nat.le_of_ble_eq_true rfl) rfl ?_
  rintro E ⟨(h_1 : List ((Int × Int × Int × Unit))), ⟨⟩⟩ y hP H hw
  obtain ⟨z, H1, rfl⟩ := map_out H
  replace H : late h_1 = some z := H1
  clear hw H1
  unfold late at H
  refine tr_keep [0] (σ' := mkSl 6 0 [(0, .val (.list (.st [.int .i64, .int .i64, .int .i64])) .n h_1)]) rfl ?_
  refine tr_seq ?_
  refine tr_rg hP tabOk hsp fun A hA M hM => ?_
  cbv
  refine hM _ ?_
  refine tr_seq ?_
  refine tr_keep [0, 2] (σ' := mkSl 6 0 [(0, .val (.list (.st [.int .i64, .int .i64, .int .i64])) .n h_1), (2, .val (.list (.list (.bool))) (.l (.l .n)) ([] : List (List Bool)))]) (by subst hA; rfl) ?_
  clear hM hA M A
  refine tr_rg hP tabOk hsp fun A hA M hM => ?_
  cbv
  obtain ⟨r_2, hr1, H⟩ := bind_out H
  obtain ⟨pq1, eq1⟩ := hc30 hr1
  refine ⟨by subst hA; subst eq1; exact pq1, hM _ ?_⟩
  refine tr_ret ?_
  have hr := Option.some.inj H
  subst hr
  subst hA
  subst eq1
  exact rfl
theorem late_sp : ∃ (pg : PT.denL [.list (.st [.int .i64, .int .i64, .int .i64])] → Prop) (fg : PT.denL [.list (.st [.int .i64, .int .i64, .int .i64])] → PT.denL [.list (.list (.bool))]), SpecRuns Try.prog 29 ⟨[.list (.st [.int .i64, .int .i64, .int .i64])], [.v], [.list (.list (.bool))], [.l (.l .n)], pg, fg⟩ ∧ (∀ {a1 : List ((Int × Int × Int × Unit))} {y : List (List Bool)}, late a1 = some y → pg (a1, ()) ∧ y = (fg (a1, ())).1) ∧ (∀ {a1 : List ((Int × Int × Int × Unit))}, (late a1).isSome = true → pg (a1, ())) ∧ ∀ {a1 : List ((Int × Int × Int × Unit))}, (late a1).getD ([] : List (List Bool)) = (fg (a1, ())).1 := by
  obtain ⟨pg, fg, h, hc, hi, hd⟩ := spec_hide late_runs
  refine ⟨pg, fg, h, ?_, ?_, ?_⟩
  · intro a1 y e
    obtain ⟨h1, h2⟩ := hc (a1, ()) (y, ()) (congrArg (Option.map fun r => (r, ())) e)
    exact ⟨h1, by first | (rw [h2]; done) | (rw [h2]; rfl)⟩
  · intro a1
    intro e
    exact hi (a1, ()) (map_isSome e)
  · intro a1
    rw [hd (a1, ())]
    cases late a1 <;> rfl
end Go.Proofs.Ytdahfpfkjljojaa.Ct
