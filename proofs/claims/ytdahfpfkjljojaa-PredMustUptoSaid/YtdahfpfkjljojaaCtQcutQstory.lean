/- Functions of the program as functions that may fail, and that the code computes them (printed). Each theorem bears its conditions itself. -/
import Derived.Test.YtdahfpfkjljojaaCtDefs
import Derived.Test.YtdahfpfkjljojaaCtTab
import Derived.Test.YtdahfpfkjljojaaCtQvectQVectors
open Go Go.Proofs.Ytdahfpfkjljojaa.Sy Go.Proofs
set_option maxHeartbeats 4000000
set_option maxRecDepth 100000
set_option cbv.maxSteps 10000000
set_option linter.unusedVariables false
set_option linter.unusedSimpArgs false
namespace Go.Proofs.Ytdahfpfkjljojaa.Ct
theorem cut_story_runs : SpecRuns Try.prog 36 (oSpec [.list (.st [.int .i64, .int .i64, .int .i64])] [.v] [.arr 6 (.list (.arr 6 (.int .i64)))] [.a (.l .n)] fun x => (cut_story x.1).map fun r => (r, ())) := by
  obtain ⟨pg43, fg43, hs43, hc43, hi43, hd43⟩ := vect_Vectors_sp
  have hsp : SpecsOk Try.prog [(43, ⟨[.list (.st [.int .i64, .int .i64, .int .i64])], [.v], [.list (.arr 6 (.int .i64)), .int .i64], [.l .n, .n], pg43, fg43⟩)] := (specsOk_cons Try.func43 (by kernel_rfl) (by kernel_rfl) hs43 specsOk_nil)
  refine runs_of_o tabOk Try.func36 rfl (Nat.le_of_ble_eq_true rfl) rfl ?_
  rintro E ⟨(h_1 : List ((Int × Int × Int × Unit))), ⟨⟩⟩ y hP H hw
  obtain ⟨z, H1, rfl⟩ := map_out H
  replace H : cut_story h_1 = some z := H1
  clear hw H1
  unfold cut_story at H
  refine tr_keep [0] (σ' := mkSl 35 0 [(0, .val (.list (.st [.int .i64, .int .i64, .int .i64])) .n h_1)]) rfl ?_
  refine tr_seq ?_
  refine tr_rg hP tabOk hsp fun A hA M hM => ?_
  cbv
  refine hM _ ?_
  refine tr_seq ?_
  refine tr_keepL [0, 2] (fun t2_2 : List (List (List Int)) => mkSl 35 0 [(0, .val (.list (.st [.int .i64, .int .i64, .int .i64])) .n h_1), (2, .val (.box (.arr 6 (.list (.arr 6 (.int .i64))))) (.b (.a (.l .n))) t2_2)]) H (by subst hA; rfl) (fun t2_2 H => ?_)
  clear hM hA M A
  refine tr_rg hP tabOk hsp fun A hA M hM => ?_
  cbv
  refine hM _ ?_
  refine tr_seq ?_
  refine tr_keepL [0, 2, 3] (fun out_3 : List (List (List Int)) => mkSl 35 0 [(0, .val (.list (.st [.int .i64, .int .i64, .int .i64])) .n h_1), (2, .val (.box (.arr 6 (.list (.arr 6 (.int .i64))))) (.b (.a (.l .n))) t2_2), (3, .val (.box (.arr 6 (.list (.arr 6 (.int .i64))))) (.b (.a (.l .n))) out_3)]) H (by subst hA; rfl) (fun out_3 H => ?_)
  clear hM hA M A
  refine tr_rg hP tabOk hsp fun A hA M hM => ?_
  cbv
  obtain ⟨r_4, hr1, H⟩ := bind_out H
  obtain ⟨pq1, eq1⟩ := hc43 hr1
  refine ⟨by subst hA; subst eq1; exact pq1, hM _ ?_⟩
  refine tr_seq ?_
  refine tr_seq ?_
  refine tr_keep [0, 2, 3, 4] (σ' := mkSl 35 0 [(0, .val (.list (.st [.int .i64, .int .i64, .int .i64])) .n h_1), (2, .val (.box (.arr 6 (.list (.arr 6 (.int .i64))))) (.b (.a (.l .n))) t2_2), (3, .val (.box (.arr 6 (.list (.arr 6 (.int .i64))))) (.b (.a (.l .n))) out_3), (4, .val (.list (.arr 6 (.int .i64))) (.l .n) r_4.1)]) (by subst hA; subst eq1; rfl) ?_
  clear pq1 eq1 hr1 hM hA M A
  refine tr_rg hP tabOk hsp fun A hA M hM => ?_
  cbv
  refine hM _ ?_
  refine tr_block ?_
  refine tr_keepL [2, 3, 4, 13, 14, 15] (fun t14_5 : Int => mkSl 35 0 [(2, .val (.box (.arr 6 (.list (.arr 6 (.int .i64))))) (.b (.a (.l .n))) t2_2), (3, .val (.box (.arr 6 (.list (.arr 6 (.int .i64))))) (.b (.a (.l .n))) out_3), (4, .val (.list (.arr 6 (.int .i64))) (.l .n) r_4.1), (13, .val (.list (.st [.int .i64, .int .i64, .int .i64])) .n h_1), (14, .val (.int .i64) .n t14_5), (15, .val (.int .i64) .n (0 : Int))]) H (by subst hA; rfl) (fun t14_5 H => ?_)
  clear hM hA M A
  obtain ⟨q_9, hq, H⟩ := bind_out H
  refine tr_loopB 0 (fun x : List (List (List Int)) × Int => cut_story_L1 h_1 r_4 t14_5 x.1 x.2) (fun x : List (List (List Int)) × Int => mkSl 35 0 [(2, .val (.box (.arr 6 (.list (.arr 6 (.int .i64))))) (.b (.a (.l .n))) t2_2), (3, .val (.box (.arr 6 (.list (.arr 6 (.int .i64))))) (.b (.a (.l .n))) x.1), (4, .val (.list (.arr 6 (.int .i64))) (.l .n) r_4.1), (13, .val (.list (.st [.int .i64, .int .i64, .int .i64])) .n h_1), (14, .val (.int .i64) .n t14_5), (15, .val (.int .i64) .n x.2)]) [2, 3, 4, 13, 14, 15] (fun q_9 : List (List (List Int)) => mkSl 35 0 [(2, .val (.box (.arr 6 (.list (.arr 6 (.int .i64))))) (.b (.a (.l .n))) t2_2), (3, .val (.box (.arr 6 (.list (.arr 6 (.int .i64))))) (.b (.a (.l .n))) q_9)]) [2, 3] hq rfl (fun σ' h => ?_) (fun x r1 H => ?_)
  · refine tr_keep [2, 3] h ?_
    refine tr_seq ?_
    refine tr_rg hP tabOk hsp fun A hA M hM => ?_
    cbv
    refine hM _ ?_
    refine tr_ret ?_
    have hr := Option.some.inj H
    subst hr
    subst hA
    exact rfl
  · obtain ⟨out_6, t15_7⟩ := x
    replace H : cut_story_L1 h_1 r_4 t14_5 out_6 t15_7 = some r1 := H
    unfold cut_story_L1 at H
    refine tr_seq ?_
    refine tr_rg hP tabOk hsp fun A hA M hM => ?_
    cbv
    refine hM _ ?_
    refine tr_seq ?_
    refine tr_keep [2, 3, 4, 13, 14, 15, 16] (σ' := mkSl 35 0 [(2, .val (.box (.arr 6 (.list (.arr 6 (.int .i64))))) (.b (.a (.l .n))) t2_2), (3, .val (.box (.arr 6 (.list (.arr 6 (.int .i64))))) (.b (.a (.l .n))) out_6), (4, .val (.list (.arr 6 (.int .i64))) (.l .n) r_4.1), (13, .val (.list (.st [.int .i64, .int .i64, .int .i64])) .n h_1), (14, .val (.int .i64) .n t14_5), (15, .val (.int .i64) .n t15_7), (16, .val (.bool) .n (decide (t15_7 < t14_5)))]) (by subst hA; rfl) ?_
    clear hM hA M A
    refine tr_cond rfl (fun hc => ?_) (fun hc => ?_)
    · replace H := if_t H hc
      refine tr_keep [2, 3, 4, 13, 14, 15] (σ' := mkSl 35 0 [(2, .val (.box (.arr 6 (.list (.arr 6 (.int .i64))))) (.b (.a (.l .n))) t2_2), (3, .val (.box (.arr 6 (.list (.arr 6 (.int .i64))))) (.b (.a (.l .n))) out_6), (4, .val (.list (.arr 6 (.int .i64))) (.l .n) r_4.1), (13, .val (.list (.st [.int .i64, .int .i64, .int .i64])) .n h_1), (14, .val (.int .i64) .n t14_5), (15, .val (.int .i64) .n t15_7)]) rfl ?_
      refine tr_skip ?_
      refine tr_seq ?_
      refine tr_block ?_
      refine tr_seq ?_
      refine tr_rg hP tabOk hsp fun A hA M hM => ?_
      cbv
      obtain ⟨ob1, H⟩ := ck_out H
      refine ⟨by subst hA; exact ob1, hM _ ?_⟩
      refine tr_keepL [2, 3, 4, 6, 7, 13, 14, 15] (fun x_10 : (Int × Int × Int × Unit) => mkSl 35 0 [(2, .val (.box (.arr 6 (.list (.arr 6 (.int .i64))))) (.b (.a (.l .n))) t2_2), (3, .val (.box (.arr 6 (.list (.arr 6 (.int .i64))))) (.b (.a (.l .n))) out_6), (4, .val (.list (.arr 6 (.int .i64))) (.l .n) r_4.1), (6, .val (.int .i64) .n t15_7), (7, .val (.box (.st [.int .i64, .int .i64, .int .i64])) (.b .n) x_10), (13, .val (.list (.st [.int .i64, .int .i64, .int .i64])) .n h_1), (14, .val (.int .i64) .n t14_5), (15, .val (.int .i64) .n t15_7)]) H (by subst hA; rfl) (fun x_10 H => ?_)
      clear ob1 hM hA M A
      refine tr_rg hP tabOk hsp fun A hA M hM => ?_
      cbv
      obtain ⟨ob1, H⟩ := ck_out H
      obtain ⟨ob2, H⟩ := ck_out H
      obtain ⟨ob3, H⟩ := ck_out H
      obtain ⟨ob4, H⟩ := ck_out H
      refine ⟨by subst hA; exact ob1, by subst hA; exact ob2, by subst hA; exact ob3, by subst hA; exact ob4, hM _ ?_⟩
      refine tr_keepL [2, 3, 4, 13, 14, 15] (fun out_11 : List (List (List Int)) => mkSl 35 0 [(2, .val (.box (.arr 6 (.list (.arr 6 (.int .i64))))) (.b (.a (.l .n))) t2_2), (3, .val (.box (.arr 6 (.list (.arr 6 (.int .i64))))) (.b (.a (.l .n))) out_11), (4, .val (.list (.arr 6 (.int .i64))) (.l .n) r_4.1), (13, .val (.list (.st [.int .i64, .int .i64, .int .i64])) .n h_1), (14, .val (.int .i64) .n t14_5), (15, .val (.int .i64) .n t15_7)]) H (by subst hA; rfl) (fun out_11 H => ?_)
      clear ob4 ob3 ob2 ob1 hM hA M A
      refine tr_rg hP tabOk hsp fun A hA M hM => ?_
      cbv
      refine hM _ ?_
      exact Exists.intro _ (And.intro (Option.some.inj H).symm (by subst hA; rfl))
    · replace H := if_f H hc
      refine tr_keep [2, 3, 4, 13, 14, 15] (σ' := mkSl 35 0 [(2, .val (.box (.arr 6 (.list (.arr 6 (.int .i64))))) (.b (.a (.l .n))) t2_2), (3, .val (.box (.arr 6 (.list (.arr 6 (.int .i64))))) (.b (.a (.l .n))) out_6), (4, .val (.list (.arr 6 (.int .i64))) (.l .n) r_4.1), (13, .val (.list (.st [.int .i64, .int .i64, .int .i64])) .n h_1), (14, .val (.int .i64) .n t14_5), (15, .val (.int .i64) .n t15_7)]) rfl ?_
      refine tr_exit ?_
      exact And.intro rfl (Exists.intro _ (And.intro (Option.some.inj H).symm (by rfl)))
theorem cut_story_sp : ∃ (pg : PT.denL [.list (.st [.int .i64, .int .i64, .int .i64])] → Prop) (fg : PT.denL [.list (.st [.int .i64, .int .i64, .int .i64])] → PT.denL [.arr 6 (.list (.arr 6 (.int .i64)))]), SpecRuns Try.prog 36 ⟨[.list (.st [.int .i64, .int .i64, .int .i64])], [.v], [.arr 6 (.list (.arr 6 (.int .i64)))], [.a (.l .n)], pg, fg⟩ ∧ (∀ {a1 : List ((Int × Int × Int × Unit))} {y : List (List (List Int))}, cut_story a1 = some y → pg (a1, ()) ∧ y = (fg (a1, ())).1) ∧ (∀ {a1 : List ((Int × Int × Int × Unit))}, (cut_story a1).isSome = true → pg (a1, ())) ∧ ∀ {a1 : List ((Int × Int × Int × Unit))}, (cut_story a1).getD (List.replicate 6 ([] : List (List Int))) = (fg (a1, ())).1 := by
  obtain ⟨pg, fg, h, hc, hi, hd⟩ := spec_hide cut_story_runs
  refine ⟨pg, fg, h, ?_, ?_, ?_⟩
  · intro a1 y e
    obtain ⟨h1, h2⟩ := hc (a1, ()) (y, ()) (congrArg (Option.map fun r => (r, ())) e)
    exact ⟨h1, by first | (rw [h2]; done) | (rw [h2]; rfl)⟩
  · intro a1
    intro e
    exact hi (a1, ()) (map_isSome e)
  · intro a1
    rw [hd (a1, ())]
    cases cut_story a1 <;> rfl
end Go.Proofs.Ytdahfpfkjljojaa.Ct
