/- Functions of the program as functions that may fail, and that the code computes them (printed). Each theorem bears its conditions itself. -/
import Derived.Test.YtdahfpfkjljojaaCtDefs
import Derived.Test.YtdahfpfkjljojaaCtTab
open Go Go.Proofs.Ytdahfpfkjljojaa.Sy Go.Proofs
set_option maxHeartbeats 4000000
set_option maxRecDepth 100000
set_option cbv.maxSteps 10000000
set_option linter.unusedVariables false
set_option linter.unusedSimpArgs false
namespace Go.Proofs.Ytdahfpfkjljojaa.Ct
theorem pred_holds_runs : SpecRuns Try.prog 41 (oSpec [.list (.list (.bool)), .arr 6 (.int .i64)] [.v, .v] [.bool] [.n] fun x => (pred_holds x.1 x.2.1).map fun r => (r, ())) := by
  have hsp : SpecsOk Try.prog [] := specsOk_nil
  refine runs_of_o tabOk Try.func41 rfl (Nat.le_of_ble_eq_true rfl) rfl ?_
  rintro E ⟨(truth_1 : List (List Bool)), (c_2 : List Int), ⟨⟩⟩ y hP H hw
  obtain ⟨z, H1, rfl⟩ := map_out H
  replace H : pred_holds truth_1 c_2 = some z := H1
  clear hw H1
  unfold pred_holds at H
  refine tr_keep [0, 1] (σ' := mkSl 22 0 [(0, .val (.list (.list (.bool))) .n truth_1), (1, .val (.arr 6 (.int .i64)) .n c_2)]) rfl ?_
  refine tr_seq ?_
  refine tr_rg hP tabOk hsp fun A hA M hM => ?_
  cbv
  refine hM _ ?_
  refine tr_seq ?_
  refine tr_seq ?_
  refine tr_keep [0, 3] (σ' := mkSl 22 0 [(0, .val (.list (.list (.bool))) .n truth_1), (3, .val (.box (.arr 6 (.int .i64))) (.b .n) c_2)]) (by subst hA; rfl) ?_
  clear hM hA M A
  refine tr_rg hP tabOk hsp fun A hA M hM => ?_
  cbv
  refine hM _ ?_
  refine tr_block ?_
  refine tr_keepL [3, 7, 8, 9] (fun t8_3 : Int => mkSl 22 0 [(3, .val (.box (.arr 6 (.int .i64))) (.b .n) c_2), (7, .val (.list (.list (.bool))) .n truth_1), (8, .val (.int .i64) .n t8_3), (9, .val (.int .i64) .n (0 : Int))]) H (by subst hA; rfl) (fun t8_3 H => ?_)
  clear hM hA M A
  obtain ⟨q, hq, Hl, Hr⟩ := bindE_out H
  refine tr_loopE 0 (fun x : Int => pred_holds_L1 truth_1 c_2 t8_3 x) (fun x : Int => mkSl 22 0 [(3, .val (.box (.arr 6 (.int .i64))) (.b .n) c_2), (7, .val (.list (.list (.bool))) .n truth_1), (8, .val (.int .i64) .n t8_3), (9, .val (.int .i64) .n x)]) [3, 7, 8, 9] (fun q_5 : Unit => mkSl 22 0 []) [] hq rfl Hr (fun q_5 hl σ' h => ?_) (fun x r1 H => ?_)
  · replace H := Hl q_5 hl
    refine tr_keep [] h ?_
    refine tr_seq ?_
    refine tr_rg hP tabOk hsp fun A hA M hM => ?_
    cbv
    refine hM _ ?_
    refine tr_ret ?_
    have hr := Option.some.inj H
    subst hr
    subst hA
    exact rfl
  · obtain ⟨t9_4, rfl⟩ : ∃ v, v = x := ⟨x, rfl⟩
    replace H : pred_holds_L1 truth_1 c_2 t8_3 t9_4 = some r1 := H
    unfold pred_holds_L1 at H
    refine tr_seq ?_
    refine tr_rg hP tabOk hsp fun A hA M hM => ?_
    cbv
    refine hM _ ?_
    refine tr_seq ?_
    refine tr_keep [3, 7, 8, 9, 10] (σ' := mkSl 22 0 [(3, .val (.box (.arr 6 (.int .i64))) (.b .n) c_2), (7, .val (.list (.list (.bool))) .n truth_1), (8, .val (.int .i64) .n t8_3), (9, .val (.int .i64) .n t9_4), (10, .val (.bool) .n (decide (t9_4 < t8_3)))]) (by subst hA; rfl) ?_
    clear hM hA M A
    refine tr_cond rfl (fun hc => ?_) (fun hc => ?_)
    · replace H := if_t H hc
      refine tr_keep [3, 7, 8, 9] (σ' := mkSl 22 0 [(3, .val (.box (.arr 6 (.int .i64))) (.b .n) c_2), (7, .val (.list (.list (.bool))) .n truth_1), (8, .val (.int .i64) .n t8_3), (9, .val (.int .i64) .n t9_4)]) rfl ?_
      refine tr_skip ?_
      refine tr_seq ?_
      refine tr_block ?_
      refine tr_seq ?_
      refine tr_rg hP tabOk hsp fun A hA M hM => ?_
      cbv
      obtain ⟨ob1, H⟩ := ck_out H
      refine ⟨by subst hA; exact ob1, hM _ ?_⟩
      refine tr_seq ?_
      refine tr_keepL [3, 5, 6, 7, 8, 9] (fun l_6 : List Bool => mkSl 22 0 [(3, .val (.box (.arr 6 (.int .i64))) (.b .n) c_2), (5, .val (.int .i64) .n t9_4), (6, .val (.list (.bool)) .n l_6), (7, .val (.list (.list (.bool))) .n truth_1), (8, .val (.int .i64) .n t8_3), (9, .val (.int .i64) .n t9_4)]) H (by subst hA; rfl) (fun l_6 H => ?_)
      clear ob1 hM hA M A
      refine tr_rg hP tabOk hsp fun A hA M hM => ?_
      cbv
      obtain ⟨ob1, H⟩ := ck_out H
      obtain ⟨ob2, H⟩ := ck_out H
      refine ⟨by subst hA; exact ob1, by subst hA; exact ob2, hM _ ?_⟩
      refine tr_keep [3, 6, 7, 8, 9, 20] (σ' := mkSl 22 0 [(3, .val (.box (.arr 6 (.int .i64))) (.b .n) c_2), (6, .val (.list (.bool)) .n l_6), (7, .val (.list (.list (.bool))) .n truth_1), (8, .val (.int .i64) .n t8_3), (9, .val (.int .i64) .n t9_4), (20, .val (.bool) .n (!(l_6.getD (c_2.getD t9_4.toNat (0 : Int)).toNat false)))]) (by subst hA; rfl) ?_
      clear ob2 ob1 hM hA M A
      refine tr_cond rfl (fun hc => ?_) (fun hc => ?_)
      · replace H := if_t H hc
        refine tr_keep [3, 6, 7, 8, 9] (σ' := mkSl 22 0 [(3, .val (.box (.arr 6 (.int .i64))) (.b .n) c_2), (6, .val (.list (.bool)) .n l_6), (7, .val (.list (.list (.bool))) .n truth_1), (8, .val (.int .i64) .n t8_3), (9, .val (.int .i64) .n t9_4)]) rfl ?_
        refine tr_seq ?_
        refine tr_rg hP tabOk hsp fun A hA M hM => ?_
        cbv
        refine hM _ ?_
        refine tr_ret ?_
        have hr := Option.some.inj H
        refine Exists.intro _ (And.intro hr.symm (fun hr => ?_))
        subst hr
        subst hA
        exact rfl
      · replace H := if_f H hc
        refine tr_keep [3, 6, 7, 8, 9] (σ' := mkSl 22 0 [(3, .val (.box (.arr 6 (.int .i64))) (.b .n) c_2), (6, .val (.list (.bool)) .n l_6), (7, .val (.list (.list (.bool))) .n truth_1), (8, .val (.int .i64) .n t8_3), (9, .val (.int .i64) .n t9_4)]) rfl ?_
        refine tr_skip ?_
        refine tr_rg hP tabOk hsp fun A hA M hM => ?_
        cbv
        refine hM _ ?_
        exact Exists.intro _ (And.intro (Option.some.inj H).symm (by subst hA; rfl))
    · replace H := if_f H hc
      refine tr_keep [3, 7, 8, 9] (σ' := mkSl 22 0 [(3, .val (.box (.arr 6 (.int .i64))) (.b .n) c_2), (7, .val (.list (.list (.bool))) .n truth_1), (8, .val (.int .i64) .n t8_3), (9, .val (.int .i64) .n t9_4)]) rfl ?_
      refine tr_exit ?_
      exact And.intro rfl (Exists.intro _ (And.intro (Option.some.inj H).symm (by rfl)))
theorem pred_holds_sp : ∃ (pg : PT.denL [.list (.list (.bool)), .arr 6 (.int .i64)] → Prop) (fg : PT.denL [.list (.list (.bool)), .arr 6 (.int .i64)] → PT.denL [.bool]), SpecRuns Try.prog 41 ⟨[.list (.list (.bool)), .arr 6 (.int .i64)], [.v, .v], [.bool], [.n], pg, fg⟩ ∧ (∀ {a1 : List (List Bool)} {a2 : List Int} {y : Bool}, pred_holds a1 a2 = some y → pg (a1, a2, ()) ∧ y = (fg (a1, a2, ())).1) ∧ (∀ {a1 : List (List Bool)} {a2 : List Int}, (pred_holds a1 a2).isSome = true → pg (a1, a2, ())) ∧ ∀ {a1 : List (List Bool)} {a2 : List Int}, (pred_holds a1 a2).getD false = (fg (a1, a2, ())).1 := by
  obtain ⟨pg, fg, h, hc, hi, hd⟩ := spec_hide pred_holds_runs
  refine ⟨pg, fg, h, ?_, ?_, ?_⟩
  · intro a1 a2 y e
    obtain ⟨h1, h2⟩ := hc (a1, a2, ()) (y, ()) (congrArg (Option.map fun r => (r, ())) e)
    exact ⟨h1, by first | (rw [h2]; done) | (rw [h2]; rfl)⟩
  · intro a1 a2
    intro e
    exact hi (a1, a2, ()) (map_isSome e)
  · intro a1 a2
    rw [hd (a1, a2, ())]
    cases pred_holds a1 a2 <;> rfl
end Go.Proofs.Ytdahfpfkjljojaa.Ct
