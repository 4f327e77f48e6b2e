/- Functions of the program as functions that may fail, and that the code computes them (printed). Each theorem bears its conditions itself. -/
import Derived.Test.YtiddimfepemohaaRgDefs
import Derived.Test.YtiddimfepemohaaRgTab
open Go Go.Proofs.Ytiddimfepemohaa.Sy Go.Proofs
set_option maxHeartbeats 4000000
set_option maxRecDepth 100000
set_option cbv.maxSteps 10000000
set_option linter.unusedVariables false
set_option linter.unusedSimpArgs false
namespace Go.Proofs.Ytiddimfepemohaa.Rg
theorem slices_Max_Lint_int_runs : SpecRuns Try.prog 11 (oSpec [.list (.int .i64)] [.v] [.int .i64] [.n] fun x => (slices_Max_Lint_int x.1).map fun r => (r, ())) := by
  have hsp : SpecsOk Try.prog [] := specsOk_nil
  refine runs_of_o tabOk Try.func11 rfl (Nat.le_of_ble_eq_true rfl) rfl ?_
  rintro E ⟨(x_1 : List Int), ⟨⟩⟩ y hP H hw
  obtain ⟨z, H1, rfl⟩ := map_out H
  replace H : slices_Max_Lint_int x_1 = some z := H1
  clear hw H1
  unfold slices_Max_Lint_int at H
  refine tr_keep [0] (σ' := mkSl 25 0 [(0, .val (.list (.int .i64)) .n x_1)]) rfl ?_
  refine tr_seq ?_
  refine tr_rg hP tabOk hsp fun A hA M hM => ?_
  cbv
  refine hM _ ?_
  refine tr_seq ?_
  refine tr_seq ?_
  refine tr_keep [0] (σ' := mkSl 25 0 [(0, .val (.list (.int .i64)) .n x_1)]) (by subst hA; rfl) ?_
  clear hM hA M A
  refine tr_rg hP tabOk hsp fun A hA M hM => ?_
  cbv
  refine hM _ ?_
  refine tr_keep [0, 7] (σ' := mkSl 25 0 [(0, .val (.list (.int .i64)) .n x_1), (7, .val (.bool) .n (decide ((x_1.length : Int) < (1 : Int))))]) (by subst hA; rfl) ?_
  clear hM hA M A
  refine tr_cond rfl (fun hc => ?_) (fun hc => ?_)
  · replace H := if_t H hc
    refine tr_keep [0] (σ' := mkSl 25 0 [(0, .val (.list (.int .i64)) .n x_1)]) rfl ?_
    exact nomatch H
  · replace H := if_f H hc
    refine tr_keep [0] (σ' := mkSl 25 0 [(0, .val (.list (.int .i64)) .n x_1)]) rfl ?_
    refine tr_skip ?_
    refine tr_seq ?_
    refine tr_rg hP tabOk hsp fun A hA M hM => ?_
    cbv
    obtain ⟨ob1, H⟩ := ck_out H
    refine ⟨by subst hA; exact ob1, hM _ ?_⟩
    refine tr_seq ?_
    refine tr_seq ?_
    refine tr_keepL [0, 3] (fun m_2 : Int => mkSl 25 0 [(0, .val (.list (.int .i64)) .n x_1), (3, .val (.int .i64) .n m_2)]) H (by subst hA; rfl) (fun m_2 H => ?_)
    clear ob1 hM hA M A
    refine tr_rg hP tabOk hsp fun A hA M hM => ?_
    cbv
    refine hM _ ?_
    refine tr_block ?_
    refine tr_keep [0, 3, 4] (σ' := mkSl 25 0 [(0, .val (.list (.int .i64)) .n x_1), (3, .val (.int .i64) .n m_2), (4, .val (.int .i64) .n (1 : Int))]) (by subst hA; rfl) ?_
    clear hM hA M A
    obtain ⟨q_6, hq, H⟩ := bind_out H
    refine tr_loopB 0 (fun x : Int × Int => slices_Max_Lint_int_L1 x_1 x.1 x.2) (fun x : Int × Int => mkSl 25 0 [(0, .val (.list (.int .i64)) .n x_1), (3, .val (.int .i64) .n x.1), (4, .val (.int .i64) .n x.2)]) [0, 3, 4] (fun q_6 : Int => mkSl 25 0 [(3, .val (.int .i64) .n q_6)]) [3] hq rfl (fun σ' h => ?_) (fun x r1 H => ?_)
    · refine tr_keep [3] h ?_
      refine tr_seq ?_
      refine tr_rg hP tabOk hsp fun A hA M hM => ?_
      cbv
      refine hM _ ?_
      refine tr_ret ?_
      have hr := Option.some.inj H
      subst hr
      subst hA
      exact rfl
    · obtain ⟨m_3, i_4⟩ := x
      replace H : slices_Max_Lint_int_L1 x_1 m_3 i_4 = some r1 := H
      unfold slices_Max_Lint_int_L1 at H
      refine tr_seq ?_
      refine tr_seq ?_
      refine tr_rg hP tabOk hsp fun A hA M hM => ?_
      cbv
      refine hM _ ?_
      refine tr_keep [0, 3, 4, 15] (σ' := mkSl 25 0 [(0, .val (.list (.int .i64)) .n x_1), (3, .val (.int .i64) .n m_3), (4, .val (.int .i64) .n i_4), (15, .val (.bool) .n (decide (i_4 < (x_1.length : Int))))]) (by subst hA; rfl) ?_
      clear hM hA M A
      refine tr_cond rfl (fun hc => ?_) (fun hc => ?_)
      · replace H := if_t H hc
        refine tr_keep [0, 3, 4] (σ' := mkSl 25 0 [(0, .val (.list (.int .i64)) .n x_1), (3, .val (.int .i64) .n m_3), (4, .val (.int .i64) .n i_4)]) rfl ?_
        refine tr_skip ?_
        refine tr_seq ?_
        refine tr_block ?_
        refine tr_rg hP tabOk hsp fun A hA M hM => ?_
        cbv
        obtain ⟨ob1, H⟩ := ck_out H
        refine ⟨by subst hA; exact ob1, hM _ ?_⟩
        refine tr_keepL [0, 3, 4] (fun m_7 : Int => mkSl 25 0 [(0, .val (.list (.int .i64)) .n x_1), (3, .val (.int .i64) .n m_7), (4, .val (.int .i64) .n i_4)]) H (by subst hA; rfl) (fun m_7 H => ?_)
        clear ob1 hM hA M A
        refine tr_rg hP tabOk hsp fun A hA M hM => ?_
        cbv
        refine hM _ ?_
        exact Exists.intro _ (And.intro (Option.some.inj H).symm (by subst hA; rfl))
      · replace H := if_f H hc
        refine tr_keep [0, 3, 4] (σ' := mkSl 25 0 [(0, .val (.list (.int .i64)) .n x_1), (3, .val (.int .i64) .n m_3), (4, .val (.int .i64) .n i_4)]) rfl ?_
        refine tr_exit ?_
        exact And.intro rfl (Exists.intro _ (And.intro (Option.some.inj H).symm (by rfl)))
theorem slices_Max_Lint_int_sp : ∃ (pg : PT.denL [.list (.int .i64)] → Prop) (fg : PT.denL [.list (.int .i64)] → PT.denL [.int .i64]), SpecRuns Try.prog 11 ⟨[.list (.int .i64)], [.v], [.int .i64], [.n], pg, fg⟩ ∧ (∀ {a1 : List Int} {y : Int}, slices_Max_Lint_int a1 = some y → pg (a1, ()) ∧ y = (fg (a1, ())).1) ∧ (∀ {a1 : List Int}, (slices_Max_Lint_int a1).isSome = true → pg (a1, ())) ∧ ∀ {a1 : List Int}, (slices_Max_Lint_int a1).getD (0 : Int) = (fg (a1, ())).1 := by
  obtain ⟨pg, fg, h, hc, hi, hd⟩ := spec_hide slices_Max_Lint_int_runs
  refine ⟨pg, fg, h, ?_, ?_, ?_⟩
  · intro a1 y e
    obtain ⟨h1, h2⟩ := hc (a1, ()) (y, ()) (congrArg (Option.map fun r => (r, ())) e)
    exact ⟨h1, by first | (rw [h2]; done) | (rw [h2]; rfl)⟩
  · intro a1
    intro e
    exact hi (a1, ()) (map_isSome e)
  · intro a1
    rw [hd (a1, ())]
    cases slices_Max_Lint_int a1 <;> rfl
end Go.Proofs.Ytiddimfepemohaa.Rg
