/- Functions of the program as functions that may fail, and that the code computes them (printed). Each theorem bears its conditions itself. -/
import Derived.Test.YtikbileeohddjaaMtDefs
import Derived.Test.YtikbileeohddjaaMtTab
import Derived.Test.YtikbileeohddjaaMtQmatQCheck
open Go Go.Proofs.Ytikbileeohddjaa.Sy Go.Proofs
set_option maxHeartbeats 4000000
set_option maxRecDepth 100000
set_option cbv.maxSteps 10000000
set_option linter.unusedVariables false
set_option linter.unusedSimpArgs false
namespace Go.Proofs.Ytikbileeohddjaa.Mt
theorem mat_New_runs : SpecRuns Try.prog 7 (oSpec [.int .i64, .int .i64] [.v, .v] [.st [.int .i64, .int .i64, .arr 6 (.arr 6 (.int .i64))], .int .i64] [.n, .n] fun x => (mat_New x.1 x.2.1).map fun r => (r.1, r.2, ())) := by
  obtain ⟨pg13, fg13, hs13, hc13, hi13, hd13⟩ := mat_Check_sp
  have hsp : SpecsOk Try.prog [(13, ⟨[.st [.int .i64, .int .i64, .arr 6 (.arr 6 (.int .i64))]], [.v], [.int .i64], [.n], pg13, fg13⟩)] := (specsOk_cons Try.func13 (by kernel_rfl) (by kernel_rfl) hs13 specsOk_nil)
  refine runs_of_o tabOk Try.func7 rfl (Nat.le_of_ble_eq_true rfl) rfl ?_
  rintro E ⟨(n_1 : Int), (me_2 : Int), ⟨⟩⟩ y hP H hw
  obtain ⟨z, H1, rfl⟩ := map_out H
  replace H : mat_New n_1 me_2 = some z := H1
  clear hw H1
  unfold mat_New at H
  refine tr_keep [0, 1] (σ' := mkSl 18 0 [(0, .val (.int .i64) .n n_1), (1, .val (.int .i64) .n me_2)]) rfl ?_
  refine tr_seq ?_
  refine tr_rg hP tabOk hsp fun A hA M hM => ?_
  cbv
  refine hM _ ?_
  refine tr_seq ?_
  refine tr_keepL [0, 1, 4] (fun t4_3 : List (List Int) => mkSl 18 0 [(0, .val (.int .i64) .n n_1), (1, .val (.int .i64) .n me_2), (4, .val (.box (.st [.int .i64, .int .i64, .arr 6 (.arr 6 (.int .i64))])) (.b .n) ((0 : Int), (0 : Int), t4_3, ()))]) H (by subst hA; rfl) (fun t4_3 H => ?_)
  clear hM hA M A
  refine tr_rg hP tabOk hsp fun A hA M hM => ?_
  cbv
  refine hM _ ?_
  refine tr_seq ?_
  refine tr_seq ?_
  refine tr_keepL [4, 6] (fun m_4 : List (List Int) => mkSl 18 0 [(4, .val (.box (.st [.int .i64, .int .i64, .arr 6 (.arr 6 (.int .i64))])) (.b .n) ((0 : Int), (0 : Int), t4_3, ())), (6, .val (.box (.st [.int .i64, .int .i64, .arr 6 (.arr 6 (.int .i64))])) (.b .n) (n_1, me_2, m_4, ()))]) H (by subst hA; rfl) (fun m_4 H => ?_)
  clear hM hA M A
  refine tr_rg hP tabOk hsp fun A hA M hM => ?_
  cbv
  obtain ⟨r_5, hr1, H⟩ := bind_out H
  obtain ⟨pq1, eq1⟩ := hc13 hr1
  refine ⟨by subst hA; subst eq1; exact pq1, hM _ ?_⟩
  refine tr_seq ?_
  refine tr_keep [4, 6, 7] (σ' := mkSl 18 0 [(4, .val (.box (.st [.int .i64, .int .i64, .arr 6 (.arr 6 (.int .i64))])) (.b .n) ((0 : Int), (0 : Int), t4_3, ())), (6, .val (.box (.st [.int .i64, .int .i64, .arr 6 (.arr 6 (.int .i64))])) (.b .n) (n_1, me_2, m_4, ())), (7, .val (.int .i64) .n r_5)]) (by subst hA; subst eq1; rfl) ?_
  clear pq1 eq1 hr1 hM hA M A
  refine tr_rg hP tabOk hsp fun A hA M hM => ?_
  cbv
  refine hM _ ?_
  refine tr_keep [4, 6, 7, 14] (σ' := mkSl 18 0 [(4, .val (.box (.st [.int .i64, .int .i64, .arr 6 (.arr 6 (.int .i64))])) (.b .n) ((0 : Int), (0 : Int), t4_3, ())), (6, .val (.box (.st [.int .i64, .int .i64, .arr 6 (.arr 6 (.int .i64))])) (.b .n) (n_1, me_2, m_4, ())), (7, .val (.int .i64) .n r_5), (14, .val (.bool) .n (r_5 != (0 : Int)))]) (by subst hA; rfl) ?_
  clear hM hA M A
  refine tr_cond rfl (fun hc => ?_) (fun hc => ?_)
  · replace H := if_t H hc
    refine tr_keep [4, 6, 7] (σ' := mkSl 18 0 [(4, .val (.box (.st [.int .i64, .int .i64, .arr 6 (.arr 6 (.int .i64))])) (.b .n) ((0 : Int), (0 : Int), t4_3, ())), (6, .val (.box (.st [.int .i64, .int .i64, .arr 6 (.arr 6 (.int .i64))])) (.b .n) (n_1, me_2, m_4, ())), (7, .val (.int .i64) .n r_5)]) rfl ?_
    refine tr_seq ?_
    refine tr_rg hP tabOk hsp fun A hA M hM => ?_
    cbv
    refine hM _ ?_
    refine tr_ret ?_
    have hr := Option.some.inj H
    subst hr
    subst hA
    exact rfl
  · replace H := if_f H hc
    refine tr_keep [4, 6, 7] (σ' := mkSl 18 0 [(4, .val (.box (.st [.int .i64, .int .i64, .arr 6 (.arr 6 (.int .i64))])) (.b .n) ((0 : Int), (0 : Int), t4_3, ())), (6, .val (.box (.st [.int .i64, .int .i64, .arr 6 (.arr 6 (.int .i64))])) (.b .n) (n_1, me_2, m_4, ())), (7, .val (.int .i64) .n r_5)]) rfl ?_
    refine tr_skip ?_
    refine tr_seq ?_
    refine tr_rg hP tabOk hsp fun A hA M hM => ?_
    cbv
    refine hM _ ?_
    refine tr_ret ?_
    have hr := Option.some.inj H
    subst hr
    subst hA
    exact rfl
theorem mat_New_sp : ∃ (pg : PT.denL [.int .i64, .int .i64] → Prop) (fg : PT.denL [.int .i64, .int .i64] → PT.denL [.st [.int .i64, .int .i64, .arr 6 (.arr 6 (.int .i64))], .int .i64]), SpecRuns Try.prog 7 ⟨[.int .i64, .int .i64], [.v, .v], [.st [.int .i64, .int .i64, .arr 6 (.arr 6 (.int .i64))], .int .i64], [.n, .n], pg, fg⟩ ∧ (∀ {a1 : Int} {a2 : Int} {y : (Int × Int × List (List Int) × Unit) × Int}, mat_New a1 a2 = some y → pg (a1, a2, ()) ∧ y = ((fg (a1, a2, ())).1, (fg (a1, a2, ())).2.1)) ∧ (∀ {a1 : Int} {a2 : Int}, (mat_New a1 a2).isSome = true → pg (a1, a2, ())) ∧ ∀ {a1 : Int} {a2 : Int}, (mat_New a1 a2).getD (((0 : Int), (0 : Int), List.replicate 6 (List.replicate 6 (0 : Int)), ()), (0 : Int)) = ((fg (a1, a2, ())).1, (fg (a1, a2, ())).2.1) := by
  obtain ⟨pg, fg, h, hc, hi, hd⟩ := spec_hide mat_New_runs
  refine ⟨pg, fg, h, ?_, ?_, ?_⟩
  · intro a1 a2 y e
    obtain ⟨h1, h2⟩ := hc (a1, a2, ()) (y.1, y.2, ()) (congrArg (Option.map fun r => (r.1, r.2, ())) e)
    exact ⟨h1, by first | (rw [h2]; done) | (rw [h2]; rfl)⟩
  · intro a1 a2
    intro e
    exact hi (a1, a2, ()) (map_isSome e)
  · intro a1 a2
    rw [hd (a1, a2, ())]
    cases mat_New a1 a2 <;> rfl
end Go.Proofs.Ytikbileeohddjaa.Mt
