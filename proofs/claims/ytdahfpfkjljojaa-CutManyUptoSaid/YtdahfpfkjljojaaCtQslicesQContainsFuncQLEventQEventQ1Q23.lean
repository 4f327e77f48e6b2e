/- Functions of the program as functions that may fail, and that the code computes them (printed). Each theorem bears its conditions itself. -/
import Derived.Test.YtdahfpfkjljojaaCtDefs
import Derived.Test.YtdahfpfkjljojaaCtTab
import Derived.Test.YtdahfpfkjljojaaCtQslicesQIndexFuncQLEventQEventQ1Q23
open Go Go.Proofs.Ytdahfpfkjljojaa.Sy Go.Proofs
set_option maxHeartbeats 4000000
set_option maxRecDepth 100000
set_option cbv.maxSteps 10000000
set_option linter.unusedVariables false
set_option linter.unusedSimpArgs false
namespace Go.Proofs.Ytdahfpfkjljojaa.Ct
theorem slices_ContainsFunc_LEvent_Event_1_23_runs : SpecRuns Try.prog 22 (oSpec [.list (.st [.int .i64, .int .i64, .int .i64]), .st []] [.v, .c 23 []] [.bool] [.n] fun x => (slices_ContainsFunc_LEvent_Event_1_23 x.1 x.2.1).map fun r => (r, ())) := by
  obtain ⟨pg38c1_23, fg38c1_23, hs38c1_23, hc38c1_23, hi38c1_23, hd38c1_23⟩ := slices_IndexFunc_LEvent_Event_1_23_sp
  have hsp : SpecsOk Try.prog [(38, ⟨[.list (.st [.int .i64, .int .i64, .int .i64]), .st []], [.v, .c 23 []], [.int .i64], [.n], pg38c1_23, fg38c1_23⟩)] := (specsOk_cons Try.func38 (by kernel_rfl) (by kernel_rfl) hs38c1_23 specsOk_nil)
  refine runs_of_o tabOk Try.func22 rfl (Nat.le_of_ble_eq_true rfl) rfl ?_
  rintro E ⟨(s_1 : List ((Int × Int × Int × Unit))), (f_2 : Unit), ⟨⟩⟩ y hP H hw
  obtain ⟨z, H1, rfl⟩ := map_out H
  replace H : slices_ContainsFunc_LEvent_Event_1_23 s_1 f_2 = some z := H1
  clear hw H1
  unfold slices_ContainsFunc_LEvent_Event_1_23 at H
  refine tr_keep [0, 1] (σ' := mkSl 9 0 [(0, .val (.list (.st [.int .i64, .int .i64, .int .i64])) .n s_1), (1, .clo 23 [])]) rfl ?_
  refine tr_seq ?_
  refine tr_rg hP tabOk hsp fun A hA M hM => ?_
  cbv
  refine hM _ ?_
  refine tr_seq ?_
  refine tr_keep [0, 1] (σ' := mkSl 9 0 [(0, .val (.list (.st [.int .i64, .int .i64, .int .i64])) .n s_1), (1, .clo 23 [])]) (by subst hA; rfl) ?_
  clear hM hA M A
  refine tr_rg hP tabOk hsp fun A hA M hM => ?_
  cbv
  obtain ⟨r_3, hr1, H⟩ := bind_out H
  obtain ⟨pq1, eq1⟩ := hc38c1_23 hr1
  refine ⟨by subst hA; subst eq1; exact pq1, hM _ ?_⟩
  refine tr_ret ?_
  have hr := Option.some.inj H
  subst hr
  subst hA
  subst eq1
  exact rfl
theorem slices_ContainsFunc_LEvent_Event_1_23_sp : ∃ (pg : PT.denL [.list (.st [.int .i64, .int .i64, .int .i64]), .st []] → Prop) (fg : PT.denL [.list (.st [.int .i64, .int .i64, .int .i64]), .st []] → PT.denL [.bool]), SpecRuns Try.prog 22 ⟨[.list (.st [.int .i64, .int .i64, .int .i64]), .st []], [.v, .c 23 []], [.bool], [.n], pg, fg⟩ ∧ (∀ {a1 : List ((Int × Int × Int × Unit))} {a2 : Unit} {y : Bool}, slices_ContainsFunc_LEvent_Event_1_23 a1 a2 = some y → pg (a1, a2, ()) ∧ y = (fg (a1, a2, ())).1) ∧ (∀ {a1 : List ((Int × Int × Int × Unit))} {a2 : Unit}, (slices_ContainsFunc_LEvent_Event_1_23 a1 a2).isSome = true → pg (a1, a2, ())) ∧ ∀ {a1 : List ((Int × Int × Int × Unit))} {a2 : Unit}, (slices_ContainsFunc_LEvent_Event_1_23 a1 a2).getD false = (fg (a1, a2, ())).1 := by
  obtain ⟨pg, fg, h, hc, hi, hd⟩ := spec_hide slices_ContainsFunc_LEvent_Event_1_23_runs
  refine ⟨pg, fg, h, ?_, ?_, ?_⟩
  · intro a1 a2 y e
    obtain ⟨h1, h2⟩ := hc (a1, a2, ()) (y, ()) (congrArg (Option.map fun r => (r, ())) e)
    exact ⟨h1, by first | (rw [h2]; done) | (rw [h2]; rfl)⟩
  · intro a1 a2
    intro e
    exact hi (a1, a2, ()) (map_isSome e)
  · intro a1 a2
    rw [hd (a1, a2, ())]
    cases slices_ContainsFunc_LEvent_Event_1_23 a1 a2 <;> rfl
end Go.Proofs.Ytdahfpfkjljojaa.Ct
