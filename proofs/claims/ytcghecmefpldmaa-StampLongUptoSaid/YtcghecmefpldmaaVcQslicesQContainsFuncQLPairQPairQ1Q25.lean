/- Functions of the program as functions that may fail, and that the code computes them (printed). Each theorem bears its conditions itself. -/
import Derived.Test.YtcghecmefpldmaaVcDefs
import Derived.Test.YtcghecmefpldmaaVcTab
import Derived.Test.YtcghecmefpldmaaVcQslicesQIndexFuncQLPairQPairQ1Q25
open Go Go.Proofs.Ytcghecmefpldmaa.Sy Go.Proofs
set_option maxHeartbeats 4000000
set_option maxRecDepth 100000
set_option cbv.maxSteps 10000000
set_option linter.unusedVariables false
set_option linter.unusedSimpArgs false
namespace Go.Proofs.Ytcghecmefpldmaa.Vc
theorem slices_ContainsFunc_LPair_Pair_1_25_runs : SpecRuns Try.prog 24 (oSpec [.list (.st [.int .i64, .int .i64]), .st [.int .i64, .list (.int .i64), .int .i64]] [.v, .c 25 [.n, .n, .n]] [.bool] [.n] fun x => (slices_ContainsFunc_LPair_Pair_1_25 x.1 x.2.1).map fun r => (r, ())) := by
  obtain ⟨pg31c1_25, fg31c1_25, hs31c1_25, hc31c1_25, hi31c1_25, hd31c1_25⟩ := slices_IndexFunc_LPair_Pair_1_25_sp
  have hsp : SpecsOk Try.prog [(31, ⟨[.list (.st [.int .i64, .int .i64]), .st [.int .i64, .list (.int .i64), .int .i64]], [.v, .c 25 [.n, .n, .n]], [.int .i64], [.n], pg31c1_25, fg31c1_25⟩)] := (specsOk_cons Try.func31 (by kernel_rfl) (by kernel_rfl) hs31c1_25 specsOk_nil)
  refine runs_of_o tabOk Try.func24 rfl (Nat.le_of_ble_eq_true rfl) rfl ?_
  rintro E ⟨(s_1 : List ((Int × Int × Unit))), (f_2 : (Int × List Int × Int × Unit)), ⟨⟩⟩ y hP H hw
  obtain ⟨z, H1, rfl⟩ := map_out H
  replace H : slices_ContainsFunc_LPair_Pair_1_25 s_1 f_2 = some z := H1
  clear hw H1
  unfold slices_ContainsFunc_LPair_Pair_1_25 at H
  refine tr_keep [0, 1] (σ' := mkSl 9 0 [(0, .val (.list (.st [.int .i64, .int .i64])) .n s_1), (1, .clo 25 [.v (.int .i64) .n f_2.1, .v (.list (.int .i64)) .n f_2.2.1, .v (.int .i64) .n f_2.2.2.1])]) rfl ?_
  refine tr_seq ?_
  refine tr_rg hP tabOk hsp fun A hA M hM => ?_
  cbv
  refine hM _ ?_
  refine tr_seq ?_
  refine tr_keep [0, 1] (σ' := mkSl 9 0 [(0, .val (.list (.st [.int .i64, .int .i64])) .n s_1), (1, .clo 25 [.v (.int .i64) .n f_2.1, .v (.list (.int .i64)) .n f_2.2.1, .v (.int .i64) .n f_2.2.2.1])]) (by subst hA; rfl) ?_
  clear hM hA M A
  refine tr_rg hP tabOk hsp fun A hA M hM => ?_
  cbv
  obtain ⟨r_3, hr1, H⟩ := bind_out H
  obtain ⟨pq1, eq1⟩ := hc31c1_25 hr1
  refine ⟨by subst hA; subst eq1; exact pq1, hM _ ?_⟩
  refine tr_ret ?_
  have hr := Option.some.inj H
  subst hr
  subst hA
  subst eq1
  exact rfl
theorem slices_ContainsFunc_LPair_Pair_1_25_sp : ∃ (pg : PT.denL [.list (.st [.int .i64, .int .i64]), .st [.int .i64, .list (.int .i64), .int .i64]] → Prop) (fg : PT.denL [.list (.st [.int .i64, .int .i64]), .st [.int .i64, .list (.int .i64), .int .i64]] → PT.denL [.bool]), SpecRuns Try.prog 24 ⟨[.list (.st [.int .i64, .int .i64]), .st [.int .i64, .list (.int .i64), .int .i64]], [.v, .c 25 [.n, .n, .n]], [.bool], [.n], pg, fg⟩ ∧ (∀ {a1 : List ((Int × Int × Unit))} {a2 : (Int × List Int × Int × Unit)} {y : Bool}, slices_ContainsFunc_LPair_Pair_1_25 a1 a2 = some y → pg (a1, a2, ()) ∧ y = (fg (a1, a2, ())).1) ∧ (∀ {a1 : List ((Int × Int × Unit))} {a2 : (Int × List Int × Int × Unit)}, (slices_ContainsFunc_LPair_Pair_1_25 a1 a2).isSome = true → pg (a1, a2, ())) ∧ ∀ {a1 : List ((Int × Int × Unit))} {a2 : (Int × List Int × Int × Unit)}, (slices_ContainsFunc_LPair_Pair_1_25 a1 a2).getD false = (fg (a1, a2, ())).1 := by
  obtain ⟨pg, fg, h, hc, hi, hd⟩ := spec_hide slices_ContainsFunc_LPair_Pair_1_25_runs
  refine ⟨pg, fg, h, ?_, ?_, ?_⟩
  · intro a1 a2 y e
    obtain ⟨h1, h2⟩ := hc (a1, a2, ()) (y, ()) (congrArg (Option.map fun r => (r, ())) e)
    exact ⟨h1, by first | (rw [h2]; done) | (rw [h2]; rfl)⟩
  · intro a1 a2
    intro e
    exact hi (a1, a2, ()) (map_isSome e)
  · intro a1 a2
    rw [hd (a1, a2, ())]
    cases slices_ContainsFunc_LPair_Pair_1_25 a1 a2 <;> rfl
end Go.Proofs.Ytcghecmefpldmaa.Vc
