/- Functions of the program as functions that may fail, and that the code computes them (printed). Each theorem bears its conditions itself. -/
import Derived.Test.YtdahfpfkjljojaaCtDefs
import Derived.Test.YtdahfpfkjljojaaCtTab
import Derived.Test.YtdahfpfkjljojaaCtQRQSizes
open Go Go.Proofs.Ytdahfpfkjljojaa.Sy Go.Proofs
set_option maxHeartbeats 4000000
set_option maxRecDepth 100000
set_option cbv.maxSteps 10000000
set_option linter.unusedVariables false
set_option linter.unusedSimpArgs false
namespace Go.Proofs.Ytdahfpfkjljojaa.Ct
theorem R_Room_runs : SpecRuns Try.prog 24 (oSpec [.list (.st [.int .i64, .int .i64, .int .i64])] [.v] [.int .i64] [.n] fun x => (R_Room x.1).map fun r => (r, ())) := by
  obtain ⟨pg27, fg27, hs27, hc27, hi27, hd27⟩ := R_Sizes_sp
  have hsp : SpecsOk Try.prog [(27, ⟨[.list (.st [.int .i64, .int .i64, .int .i64])], [.v], [.arr 6 (.int .i64)], [.n], pg27, fg27⟩)] := (specsOk_cons Try.func27 (by kernel_rfl) (by kernel_rfl) hs27 specsOk_nil)
  refine runs_of_o tabOk Try.func24 rfl (Nat.le_of_ble_eq_true rfl) rfl ?_
  rintro E ⟨(h_1 : List ((Int × Int × Int × Unit))), ⟨⟩⟩ y hP H hw
  obtain ⟨z, H1, rfl⟩ := map_out H
  replace H : R_Room h_1 = some z := H1
  clear hw H1
  unfold R_Room at H
  refine tr_keep [0] (σ' := mkSl 17 0 [(0, .val (.list (.st [.int .i64, .int .i64, .int .i64])) .n h_1)]) rfl ?_
  refine tr_seq ?_
  refine tr_rg hP tabOk hsp fun A hA M hM => ?_
  cbv
  refine hM _ ?_
  refine tr_seq ?_
  refine tr_keep [0] (σ' := mkSl 17 0 [(0, .val (.list (.st [.int .i64, .int .i64, .int .i64])) .n h_1)]) (by subst hA; rfl) ?_
  clear hM hA M A
  refine tr_rg hP tabOk hsp fun A hA M hM => ?_
  cbv
  refine hM _ ?_
  refine tr_seq ?_
  refine tr_seq ?_
  refine tr_keep [0, 3] (σ' := mkSl 17 0 [(0, .val (.list (.st [.int .i64, .int .i64, .int .i64])) .n h_1), (3, .val (.int .i64) .n (1 : Int))]) (by subst hA; rfl) ?_
  clear hM hA M A
  refine tr_rg hP tabOk hsp fun A hA M hM => ?_
  cbv
  obtain ⟨r_2, hr1, H⟩ := bind_out H
  obtain ⟨pq1, eq1⟩ := hc27 hr1
  refine ⟨by subst hA; subst eq1; exact pq1, hM _ ?_⟩
  refine tr_block ?_
  refine tr_keep [3, 7, 8] (σ' := mkSl 17 0 [(3, .val (.int .i64) .n (1 : Int)), (7, .val (.arr 6 (.int .i64)) .n r_2), (8, .val (.int .i64) .n (0 : Int))]) (by subst hA; subst eq1; rfl) ?_
  clear pq1 eq1 hr1 hM hA M A
  obtain ⟨q_6, hq, H⟩ := bind_out H
  refine tr_loopB 0 (fun x : Int × Int => R_Room_L1 r_2 x.1 x.2) (fun x : Int × Int => mkSl 17 0 [(3, .val (.int .i64) .n x.1), (7, .val (.arr 6 (.int .i64)) .n r_2), (8, .val (.int .i64) .n x.2)]) [3, 7, 8] (fun q_6 : Int => mkSl 17 0 [(3, .val (.int .i64) .n q_6)]) [3] hq rfl (fun σ' h => ?_) (fun x r1 H => ?_)
  · refine tr_keep [3] h ?_
    refine tr_seq ?_
    refine tr_rg hP tabOk hsp fun A hA M hM => ?_
    cbv
    refine hM _ ?_
    refine tr_ret ?_
    have hr := Option.some.inj H
    subst hr
    subst hA
    exact rfl
  · obtain ⟨out_3, t8_4⟩ := x
    replace H : R_Room_L1 r_2 out_3 t8_4 = some r1 := H
    unfold R_Room_L1 at H
    refine tr_seq ?_
    refine tr_rg hP tabOk hsp fun A hA M hM => ?_
    cbv
    refine hM _ ?_
    refine tr_seq ?_
    refine tr_keep [3, 7, 8, 9] (σ' := mkSl 17 0 [(3, .val (.int .i64) .n out_3), (7, .val (.arr 6 (.int .i64)) .n r_2), (8, .val (.int .i64) .n t8_4), (9, .val (.bool) .n (decide (t8_4 < (6 : Int))))]) (by subst hA; rfl) ?_
    clear hM hA M A
    refine tr_cond rfl (fun hc => ?_) (fun hc => ?_)
    · replace H := if_t H hc
      refine tr_keep [3, 7, 8] (σ' := mkSl 17 0 [(3, .val (.int .i64) .n out_3), (7, .val (.arr 6 (.int .i64)) .n r_2), (8, .val (.int .i64) .n t8_4)]) rfl ?_
      refine tr_skip ?_
      refine tr_seq ?_
      refine tr_block ?_
      refine tr_seq ?_
      refine tr_rg hP tabOk hsp fun A hA M hM => ?_
      cbv
      obtain ⟨ob1, H⟩ := ck_out H
      refine ⟨by subst hA; exact ob1, hM _ ?_⟩
      refine tr_keepL [3, 5, 7, 8] (fun n_7 : Int => mkSl 17 0 [(3, .val (.int .i64) .n out_3), (5, .val (.int .i64) .n n_7), (7, .val (.arr 6 (.int .i64)) .n r_2), (8, .val (.int .i64) .n t8_4)]) H (by subst hA; rfl) (fun n_7 H => ?_)
      clear ob1 hM hA M A
      refine tr_rg hP tabOk hsp fun A hA M hM => ?_
      cbv
      refine hM _ ?_
      refine tr_keepL [3, 7, 8] (fun out_8 : Int => mkSl 17 0 [(3, .val (.int .i64) .n out_8), (7, .val (.arr 6 (.int .i64)) .n r_2), (8, .val (.int .i64) .n t8_4)]) H (by subst hA; rfl) (fun out_8 H => ?_)
      clear hM hA M A
      refine tr_rg hP tabOk hsp fun A hA M hM => ?_
      cbv
      refine hM _ ?_
      exact Exists.intro _ (And.intro (Option.some.inj H).symm (by subst hA; rfl))
    · replace H := if_f H hc
      refine tr_keep [3, 7, 8] (σ' := mkSl 17 0 [(3, .val (.int .i64) .n out_3), (7, .val (.arr 6 (.int .i64)) .n r_2), (8, .val (.int .i64) .n t8_4)]) rfl ?_
      refine tr_exit ?_
      exact And.intro rfl (Exists.intro _ (And.intro (Option.some.inj H).symm (by rfl)))
theorem R_Room_sp : ∃ (pg : PT.denL [.list (.st [.int .i64, .int .i64, .int .i64])] → Prop) (fg : PT.denL [.list (.st [.int .i64, .int .i64, .int .i64])] → PT.denL [.int .i64]), SpecRuns Try.prog 24 ⟨[.list (.st [.int .i64, .int .i64, .int .i64])], [.v], [.int .i64], [.n], pg, fg⟩ ∧ (∀ {a1 : List ((Int × Int × Int × Unit))} {y : Int}, R_Room a1 = some y → pg (a1, ()) ∧ y = (fg (a1, ())).1) ∧ (∀ {a1 : List ((Int × Int × Int × Unit))}, (R_Room a1).isSome = true → pg (a1, ())) ∧ ∀ {a1 : List ((Int × Int × Int × Unit))}, (R_Room a1).getD (0 : Int) = (fg (a1, ())).1 := by
  obtain ⟨pg, fg, h, hc, hi, hd⟩ := spec_hide R_Room_runs
  refine ⟨pg, fg, h, ?_, ?_, ?_⟩
  · intro a1 y e
    obtain ⟨h1, h2⟩ := hc (a1, ()) (y, ()) (congrArg (Option.map fun r => (r, ())) e)
    exact ⟨h1, by first | (rw [h2]; done) | (rw [h2]; rfl)⟩
  · intro a1
    intro e
    exact hi (a1, ()) (map_isSome e)
  · intro a1
    rw [hd (a1, ())]
    cases R_Room a1 <;> rfl
end Go.Proofs.Ytdahfpfkjljojaa.Ct
