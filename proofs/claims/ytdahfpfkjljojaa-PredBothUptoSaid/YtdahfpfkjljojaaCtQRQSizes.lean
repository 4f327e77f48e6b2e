/- Functions of the program as functions that may fail, and that the code computes them (printed). Each theorem bears its conditions itself. -/
import Derived.Test.YtdahfpfkjljojaaCtDefs
import Derived.Test.YtdahfpfkjljojaaCtTab
open Go Go.Proofs.Ytdahfpfkjljojaa.Sy Go.Proofs
set_option maxHeartbeats 4000000
set_option maxRecDepth 100000
set_option cbv.maxSteps 10000000
set_option linter.unusedVariables false
set_option linter.unusedSimpArgs false
namespace Go.Proofs.Ytdahfpfkjljojaa.Ct
theorem R_Sizes_runs : SpecRuns Try.prog 27 (oSpec [.list (.st [.int .i64, .int .i64, .int .i64])] [.v] [.arr 6 (.int .i64)] [.n] fun x => (R_Sizes x.1).map fun r => (r, ())) := by
  have hsp : SpecsOk Try.prog [] := specsOk_nil
  refine runs_of_o tabOk Try.func27 rfl (Nat.le_of_ble_eq_true rfl) rfl ?_
  rintro E ⟨(h_1 : List ((Int × Int × Int × Unit))), ⟨⟩⟩ y hP H hw
  obtain ⟨z, H1, rfl⟩ := map_out H
  replace H : R_Sizes h_1 = some z := H1
  clear hw H1
  unfold R_Sizes at H
  refine tr_keep [0] (σ' := mkSl 20 0 [(0, .val (.list (.st [.int .i64, .int .i64, .int .i64])) .n h_1)]) rfl ?_
  refine tr_seq ?_
  refine tr_rg hP tabOk hsp fun A hA M hM => ?_
  cbv
  refine hM _ ?_
  refine tr_seq ?_
  refine tr_keepL [0, 2] (fun t2_2 : List Int => mkSl 20 0 [(0, .val (.list (.st [.int .i64, .int .i64, .int .i64])) .n h_1), (2, .val (.box (.arr 6 (.int .i64))) (.b .n) t2_2)]) H (by subst hA; rfl) (fun t2_2 H => ?_)
  clear hM hA M A
  refine tr_rg hP tabOk hsp fun A hA M hM => ?_
  cbv
  refine hM _ ?_
  refine tr_seq ?_
  refine tr_seq ?_
  refine tr_keepL [0, 2, 3] (fun n_3 : List Int => mkSl 20 0 [(0, .val (.list (.st [.int .i64, .int .i64, .int .i64])) .n h_1), (2, .val (.box (.arr 6 (.int .i64))) (.b .n) t2_2), (3, .val (.box (.arr 6 (.int .i64))) (.b .n) n_3)]) H (by subst hA; rfl) (fun n_3 H => ?_)
  clear hM hA M A
  refine tr_rg hP tabOk hsp fun A hA M hM => ?_
  cbv
  refine hM _ ?_
  refine tr_block ?_
  refine tr_keepL [2, 3, 6, 7, 8] (fun t7_4 : Int => mkSl 20 0 [(2, .val (.box (.arr 6 (.int .i64))) (.b .n) t2_2), (3, .val (.box (.arr 6 (.int .i64))) (.b .n) n_3), (6, .val (.list (.st [.int .i64, .int .i64, .int .i64])) .n h_1), (7, .val (.int .i64) .n t7_4), (8, .val (.int .i64) .n (0 : Int))]) H (by subst hA; rfl) (fun t7_4 H => ?_)
  clear hM hA M A
  obtain ⟨q_8, hq, H⟩ := bind_out H
  refine tr_loopB 0 (fun x : List Int × Int => R_Sizes_L1 h_1 t7_4 x.1 x.2) (fun x : List Int × Int => mkSl 20 0 [(2, .val (.box (.arr 6 (.int .i64))) (.b .n) t2_2), (3, .val (.box (.arr 6 (.int .i64))) (.b .n) x.1), (6, .val (.list (.st [.int .i64, .int .i64, .int .i64])) .n h_1), (7, .val (.int .i64) .n t7_4), (8, .val (.int .i64) .n x.2)]) [2, 3, 6, 7, 8] (fun q_8 : List Int => mkSl 20 0 [(2, .val (.box (.arr 6 (.int .i64))) (.b .n) t2_2), (3, .val (.box (.arr 6 (.int .i64))) (.b .n) q_8)]) [2, 3] hq rfl (fun σ' h => ?_) (fun x r1 H => ?_)
  · refine tr_keep [2, 3] h ?_
    refine tr_seq ?_
    refine tr_rg hP tabOk hsp fun A hA M hM => ?_
    cbv
    refine hM _ ?_
    refine tr_ret ?_
    have hr := Option.some.inj H
    subst hr
    subst hA
    exact rfl
  · obtain ⟨n_5, t8_6⟩ := x
    replace H : R_Sizes_L1 h_1 t7_4 n_5 t8_6 = some r1 := H
    unfold R_Sizes_L1 at H
    refine tr_seq ?_
    refine tr_rg hP tabOk hsp fun A hA M hM => ?_
    cbv
    refine hM _ ?_
    refine tr_seq ?_
    refine tr_keep [2, 3, 6, 7, 8, 9] (σ' := mkSl 20 0 [(2, .val (.box (.arr 6 (.int .i64))) (.b .n) t2_2), (3, .val (.box (.arr 6 (.int .i64))) (.b .n) n_5), (6, .val (.list (.st [.int .i64, .int .i64, .int .i64])) .n h_1), (7, .val (.int .i64) .n t7_4), (8, .val (.int .i64) .n t8_6), (9, .val (.bool) .n (decide (t8_6 < t7_4)))]) (by subst hA; rfl) ?_
    clear hM hA M A
    refine tr_cond rfl (fun hc => ?_) (fun hc => ?_)
    · replace H := if_t H hc
      refine tr_keep [2, 3, 6, 7, 8] (σ' := mkSl 20 0 [(2, .val (.box (.arr 6 (.int .i64))) (.b .n) t2_2), (3, .val (.box (.arr 6 (.int .i64))) (.b .n) n_5), (6, .val (.list (.st [.int .i64, .int .i64, .int .i64])) .n h_1), (7, .val (.int .i64) .n t7_4), (8, .val (.int .i64) .n t8_6)]) rfl ?_
      refine tr_skip ?_
      refine tr_seq ?_
      refine tr_block ?_
      refine tr_seq ?_
      refine tr_rg hP tabOk hsp fun A hA M hM => ?_
      cbv
      obtain ⟨ob1, H⟩ := ck_out H
      refine ⟨by subst hA; exact ob1, hM _ ?_⟩
      refine tr_keepL [2, 3, 5, 6, 7, 8] (fun x_9 : (Int × Int × Int × Unit) => mkSl 20 0 [(2, .val (.box (.arr 6 (.int .i64))) (.b .n) t2_2), (3, .val (.box (.arr 6 (.int .i64))) (.b .n) n_5), (5, .val (.box (.st [.int .i64, .int .i64, .int .i64])) (.b .n) x_9), (6, .val (.list (.st [.int .i64, .int .i64, .int .i64])) .n h_1), (7, .val (.int .i64) .n t7_4), (8, .val (.int .i64) .n t8_6)]) H (by subst hA; rfl) (fun x_9 H => ?_)
      clear ob1 hM hA M A
      refine tr_rg hP tabOk hsp fun A hA M hM => ?_
      cbv
      obtain ⟨ob1, H⟩ := ck_out H
      obtain ⟨ob2, H⟩ := ck_out H
      refine ⟨by subst hA; exact ob1, by subst hA; exact ob2, hM _ ?_⟩
      refine tr_keepL [2, 3, 6, 7, 8] (fun n_10 : List Int => mkSl 20 0 [(2, .val (.box (.arr 6 (.int .i64))) (.b .n) t2_2), (3, .val (.box (.arr 6 (.int .i64))) (.b .n) n_10), (6, .val (.list (.st [.int .i64, .int .i64, .int .i64])) .n h_1), (7, .val (.int .i64) .n t7_4), (8, .val (.int .i64) .n t8_6)]) H (by subst hA; rfl) (fun n_10 H => ?_)
      clear ob2 ob1 hM hA M A
      refine tr_rg hP tabOk hsp fun A hA M hM => ?_
      cbv
      refine hM _ ?_
      exact Exists.intro _ (And.intro (Option.some.inj H).symm (by subst hA; rfl))
    · replace H := if_f H hc
      refine tr_keep [2, 3, 6, 7, 8] (σ' := mkSl 20 0 [(2, .val (.box (.arr 6 (.int .i64))) (.b .n) t2_2), (3, .val (.box (.arr 6 (.int .i64))) (.b .n) n_5), (6, .val (.list (.st [.int .i64, .int .i64, .int .i64])) .n h_1), (7, .val (.int .i64) .n t7_4), (8, .val (.int .i64) .n t8_6)]) rfl ?_
      refine tr_exit ?_
      exact And.intro rfl (Exists.intro _ (And.intro (Option.some.inj H).symm (by rfl)))
theorem R_Sizes_sp : ∃ (pg : PT.denL [.list (.st [.int .i64, .int .i64, .int .i64])] → Prop) (fg : PT.denL [.list (.st [.int .i64, .int .i64, .int .i64])] → PT.denL [.arr 6 (.int .i64)]), SpecRuns Try.prog 27 ⟨[.list (.st [.int .i64, .int .i64, .int .i64])], [.v], [.arr 6 (.int .i64)], [.n], pg, fg⟩ ∧ (∀ {a1 : List ((Int × Int × Int × Unit))} {y : List Int}, R_Sizes a1 = some y → pg (a1, ()) ∧ y = (fg (a1, ())).1) ∧ (∀ {a1 : List ((Int × Int × Int × Unit))}, (R_Sizes a1).isSome = true → pg (a1, ())) ∧ ∀ {a1 : List ((Int × Int × Int × Unit))}, (R_Sizes a1).getD (List.replicate 6 (0 : Int)) = (fg (a1, ())).1 := by
  obtain ⟨pg, fg, h, hc, hi, hd⟩ := spec_hide R_Sizes_runs
  refine ⟨pg, fg, h, ?_, ?_, ?_⟩
  · intro a1 y e
    obtain ⟨h1, h2⟩ := hc (a1, ()) (y, ()) (congrArg (Option.map fun r => (r, ())) e)
    exact ⟨h1, by first | (rw [h2]; done) | (rw [h2]; rfl)⟩
  · intro a1
    intro e
    exact hi (a1, ()) (map_isSome e)
  · intro a1
    rw [hd (a1, ())]
    cases R_Sizes a1 <;> rfl
end Go.Proofs.Ytdahfpfkjljojaa.Ct
