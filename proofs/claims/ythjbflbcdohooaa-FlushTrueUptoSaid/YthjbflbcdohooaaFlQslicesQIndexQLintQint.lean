/- Functions of the program as functions that may fail, and that the code computes them (printed). Each theorem bears its conditions itself. -/
import Derived.Test.YthjbflbcdohooaaFlDefs
import Derived.Test.YthjbflbcdohooaaFlTab
open Go Go.Proofs.Ythjbflbcdohooaa.Sy Go.Proofs
set_option maxHeartbeats 4000000
set_option maxRecDepth 100000
set_option cbv.maxSteps 10000000
set_option linter.unusedVariables false
set_option linter.unusedSimpArgs false
namespace Go.Proofs.Ythjbflbcdohooaa.Fl
theorem slices_Index_Lint_int_runs : SpecRuns Try.prog 24 (oSpec [.list (.int .i64), .int .i64] [.v, .v] [.int .i64] [.n] fun x => (slices_Index_Lint_int x.1 x.2.1).map fun r => (r, ())) := by
  have hsp : SpecsOk Try.prog [] := specsOk_nil
  refine runs_of_o tabOk Try.func24 rfl (Nat.le_of_ble_eq_true rfl) rfl ?_
  rintro E ⟨(s_1 : List Int), (v_2 : Int), ⟨⟩⟩ y hP H hw
  obtain ⟨z, H1, rfl⟩ := map_out H
  replace H : slices_Index_Lint_int s_1 v_2 = some z := H1
  clear hw H1
  unfold slices_Index_Lint_int at H
  refine tr_keep [0, 1] (σ' := mkSl 19 0 [(0, .val (.list (.int .i64)) .n s_1), (1, .val (.int .i64) .n v_2)]) rfl ?_
  refine tr_seq ?_
  refine tr_rg hP tabOk hsp fun A hA M hM => ?_
  cbv
  refine hM _ ?_
  refine tr_seq ?_
  refine tr_seq ?_
  refine tr_keep [0, 1] (σ' := mkSl 19 0 [(0, .val (.list (.int .i64)) .n s_1), (1, .val (.int .i64) .n v_2)]) (by subst hA; rfl) ?_
  clear hM hA M A
  refine tr_rg hP tabOk hsp fun A hA M hM => ?_
  cbv
  refine hM _ ?_
  refine tr_block ?_
  refine tr_keepL [0, 1, 7, 8] (fun t7_3 : Int => mkSl 19 0 [(0, .val (.list (.int .i64)) .n s_1), (1, .val (.int .i64) .n v_2), (7, .val (.int .i64) .n t7_3), (8, .val (.int .i64) .n (0 : Int))]) H (by subst hA; rfl) (fun t7_3 H => ?_)
  clear hM hA M A
  obtain ⟨q, hq, Hl, Hr⟩ := bindE_out H
  refine tr_loopE 0 (fun x : Int => slices_Index_Lint_int_L1 s_1 v_2 t7_3 x) (fun x : Int => mkSl 19 0 [(0, .val (.list (.int .i64)) .n s_1), (1, .val (.int .i64) .n v_2), (7, .val (.int .i64) .n t7_3), (8, .val (.int .i64) .n x)]) [0, 1, 7, 8] (fun q_5 : Unit => mkSl 19 0 []) [] hq rfl Hr (fun q_5 hl σ' h => ?_) (fun x r1 H => ?_)
  · replace H := Hl q_5 hl
    refine tr_keep [] h ?_
    refine tr_seq ?_
    refine tr_rg hP tabOk hsp fun A hA M hM => ?_
    cbv
    refine hM _ ?_
    refine tr_ret ?_
    have hr := Option.some.inj H
    subst hr
    subst hA
    exact rfl
  · obtain ⟨t8_4, rfl⟩ : ∃ v, v = x := ⟨x, rfl⟩
    replace H : slices_Index_Lint_int_L1 s_1 v_2 t7_3 t8_4 = some r1 := H
    unfold slices_Index_Lint_int_L1 at H
    refine tr_seq ?_
    refine tr_rg hP tabOk hsp fun A hA M hM => ?_
    cbv
    refine hM _ ?_
    refine tr_seq ?_
    refine tr_keep [0, 1, 7, 8, 9] (σ' := mkSl 19 0 [(0, .val (.list (.int .i64)) .n s_1), (1, .val (.int .i64) .n v_2), (7, .val (.int .i64) .n t7_3), (8, .val (.int .i64) .n t8_4), (9, .val (.bool) .n (decide (t8_4 < t7_3)))]) (by subst hA; rfl) ?_
    clear hM hA M A
    refine tr_cond rfl (fun hc => ?_) (fun hc => ?_)
    · replace H := if_t H hc
      refine tr_keep [0, 1, 7, 8] (σ' := mkSl 19 0 [(0, .val (.list (.int .i64)) .n s_1), (1, .val (.int .i64) .n v_2), (7, .val (.int .i64) .n t7_3), (8, .val (.int .i64) .n t8_4)]) rfl ?_
      refine tr_skip ?_
      refine tr_seq ?_
      refine tr_block ?_
      refine tr_seq ?_
      refine tr_rg hP tabOk hsp fun A hA M hM => ?_
      cbv
      refine hM _ ?_
      refine tr_seq ?_
      refine tr_keep [0, 1, 5, 7, 8] (σ' := mkSl 19 0 [(0, .val (.list (.int .i64)) .n s_1), (1, .val (.int .i64) .n v_2), (5, .val (.int .i64) .n t8_4), (7, .val (.int .i64) .n t7_3), (8, .val (.int .i64) .n t8_4)]) (by subst hA; rfl) ?_
      clear hM hA M A
      refine tr_rg hP tabOk hsp fun A hA M hM => ?_
      cbv
      obtain ⟨ob1, H⟩ := ck_out H
      refine ⟨by subst hA; exact ob1, hM _ ?_⟩
      refine tr_keep [0, 1, 5, 7, 8, 16] (σ' := mkSl 19 0 [(0, .val (.list (.int .i64)) .n s_1), (1, .val (.int .i64) .n v_2), (5, .val (.int .i64) .n t8_4), (7, .val (.int .i64) .n t7_3), (8, .val (.int .i64) .n t8_4), (16, .val (.bool) .n (v_2 == (s_1.getD t8_4.toNat (0 : Int))))]) (by subst hA; rfl) ?_
      clear ob1 hM hA M A
      refine tr_cond rfl (fun hc => ?_) (fun hc => ?_)
      · replace H := if_t H hc
        refine tr_keep [0, 1, 5, 7, 8] (σ' := mkSl 19 0 [(0, .val (.list (.int .i64)) .n s_1), (1, .val (.int .i64) .n v_2), (5, .val (.int .i64) .n t8_4), (7, .val (.int .i64) .n t7_3), (8, .val (.int .i64) .n t8_4)]) rfl ?_
        refine tr_seq ?_
        refine tr_rg hP tabOk hsp fun A hA M hM => ?_
        cbv
        refine hM _ ?_
        refine tr_ret ?_
        have hr := Option.some.inj H
        refine Exists.intro _ (And.intro hr.symm (fun hr => ?_))
        subst hr
        subst hA
        exact rfl
      · replace H := if_f H hc
        refine tr_keep [0, 1, 5, 7, 8] (σ' := mkSl 19 0 [(0, .val (.list (.int .i64)) .n s_1), (1, .val (.int .i64) .n v_2), (5, .val (.int .i64) .n t8_4), (7, .val (.int .i64) .n t7_3), (8, .val (.int .i64) .n t8_4)]) rfl ?_
        refine tr_skip ?_
        refine tr_rg hP tabOk hsp fun A hA M hM => ?_
        cbv
        refine hM _ ?_
        exact Exists.intro _ (And.intro (Option.some.inj H).symm (by subst hA; rfl))
    · replace H := if_f H hc
      refine tr_keep [0, 1, 7, 8] (σ' := mkSl 19 0 [(0, .val (.list (.int .i64)) .n s_1), (1, .val (.int .i64) .n v_2), (7, .val (.int .i64) .n t7_3), (8, .val (.int .i64) .n t8_4)]) rfl ?_
      refine tr_exit ?_
      exact And.intro rfl (Exists.intro _ (And.intro (Option.some.inj H).symm (by rfl)))
theorem slices_Index_Lint_int_sp : ∃ (pg : PT.denL [.list (.int .i64), .int .i64] → Prop) (fg : PT.denL [.list (.int .i64), .int .i64] → PT.denL [.int .i64]), SpecRuns Try.prog 24 ⟨[.list (.int .i64), .int .i64], [.v, .v], [.int .i64], [.n], pg, fg⟩ ∧ (∀ {a1 : List Int} {a2 : Int} {y : Int}, slices_Index_Lint_int a1 a2 = some y → pg (a1, a2, ()) ∧ y = (fg (a1, a2, ())).1) ∧ (∀ {a1 : List Int} {a2 : Int}, (slices_Index_Lint_int a1 a2).isSome = true → pg (a1, a2, ())) ∧ ∀ {a1 : List Int} {a2 : Int}, (slices_Index_Lint_int a1 a2).getD (0 : Int) = (fg (a1, a2, ())).1 := by
  obtain ⟨pg, fg, h, hc, hi, hd⟩ := spec_hide slices_Index_Lint_int_runs
  refine ⟨pg, fg, h, ?_, ?_, ?_⟩
  · intro a1 a2 y e
    obtain ⟨h1, h2⟩ := hc (a1, a2, ()) (y, ()) (congrArg (Option.map fun r => (r, ())) e)
    exact ⟨h1, by first | (rw [h2]; done) | (rw [h2]; rfl)⟩
  · intro a1 a2
    intro e
    exact hi (a1, a2, ()) (map_isSome e)
  · intro a1 a2
    rw [hd (a1, a2, ())]
    cases slices_Index_Lint_int a1 a2 <;> rfl
end Go.Proofs.Ythjbflbcdohooaa.Fl
