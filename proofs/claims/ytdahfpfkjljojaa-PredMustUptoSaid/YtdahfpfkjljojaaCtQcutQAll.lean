/- Functions of the program as functions that may fail, and that the code computes them (printed). Each theorem bears its conditions itself. -/
import Derived.Test.YtdahfpfkjljojaaCtDefs
import Derived.Test.YtdahfpfkjljojaaCtTab
import Derived.Test.YtdahfpfkjljojaaCtQstampQCheck
import Derived.Test.YtdahfpfkjljojaaCtQcutQsizes
import Derived.Test.YtdahfpfkjljojaaCtQcutQgrow
open Go Go.Proofs.Ytdahfpfkjljojaa.Sy Go.Proofs
set_option maxHeartbeats 4000000
set_option maxRecDepth 100000
set_option cbv.maxSteps 10000000
set_option linter.unusedVariables false
set_option linter.unusedSimpArgs false
namespace Go.Proofs.Ytdahfpfkjljojaa.Ct
theorem cut_All_runs : SpecRuns Try.prog 21 (oSpec [.list (.st [.int .i64, .int .i64, .int .i64])] [.v] [.list (.arr 6 (.int .i64)), .int .i64] [.l .n, .n] fun x => (cut_All x.1).map fun r => (r.1, r.2, ())) := by
  obtain ⟨pg14, fg14, hs14, hc14, hi14, hd14⟩ := stamp_Check_sp
  obtain ⟨pg37, fg37, hs37, hc37, hi37, hd37⟩ := cut_sizes_sp
  obtain ⟨pg35, fg35, hs35, hc35, hi35, hd35⟩ := cut_grow_sp
  have hsp : SpecsOk Try.prog [(14, ⟨[.list (.st [.int .i64, .int .i64, .int .i64])], [.v], [.int .i64], [.n], pg14, fg14⟩), (37, ⟨[.list (.st [.int .i64, .int .i64, .int .i64])], [.v], [.arr 6 (.int .i64)], [.n], pg37, fg37⟩), (35, ⟨[.list (.st [.int .i64, .int .i64, .int .i64]), .arr 6 (.int .i64)], [.v, .v], [.arr 6 (.int .i64)], [.n], pg35, fg35⟩)] := (specsOk_cons Try.func14 (by kernel_rfl) (by kernel_rfl) hs14 (specsOk_cons Try.func37 (by kernel_rfl) (by kernel_rfl) hs37 (specsOk_cons Try.func35 (by kernel_rfl) (by kernel_rfl) hs35 specsOk_nil)))
  refine runs_of_o tabOk Try.func21 rfl (Nat.le_of_ble_eq_true rfl) rfl ?_
  rintro E ⟨(h_1 : List ((Int × Int × Int × Unit))), ⟨⟩⟩ y hP H hw
  obtain ⟨z, H1, rfl⟩ := map_out H
  replace H : cut_All h_1 = some z := H1
  clear hw H1
  unfold cut_All at H
  refine tr_keep [0] (σ' := mkSl 64 0 [(0, .val (.list (.st [.int .i64, .int .i64, .int .i64])) .n h_1)]) rfl ?_
  refine tr_seq ?_
  refine tr_rg hP tabOk hsp fun A hA M hM => ?_
  cbv
  refine hM _ ?_
  refine tr_seq ?_
  refine tr_seq ?_
  refine tr_keep [0, 2] (σ' := mkSl 64 0 [(0, .val (.list (.st [.int .i64, .int .i64, .int .i64])) .n h_1), (2, .val (.list (.arr 6 (.int .i64))) (.l .n) ([] : List (List Int)))]) (by subst hA; rfl) ?_
  clear hM hA M A
  refine tr_rg hP tabOk hsp fun A hA M hM => ?_
  cbv
  obtain ⟨r_2, hr1, H⟩ := bind_out H
  obtain ⟨pq1, eq1⟩ := hc14 hr1
  refine ⟨by subst hA; subst eq1; exact pq1, hM _ ?_⟩
  refine tr_seq ?_
  refine tr_keep [0, 2, 4] (σ' := mkSl 64 0 [(0, .val (.list (.st [.int .i64, .int .i64, .int .i64])) .n h_1), (2, .val (.list (.arr 6 (.int .i64))) (.l .n) ([] : List (List Int))), (4, .val (.int .i64) .n r_2)]) (by subst hA; subst eq1; rfl) ?_
  clear pq1 eq1 hr1 hM hA M A
  refine tr_rg hP tabOk hsp fun A hA M hM => ?_
  cbv
  refine hM _ ?_
  refine tr_keep [0, 2, 4, 15] (σ' := mkSl 64 0 [(0, .val (.list (.st [.int .i64, .int .i64, .int .i64])) .n h_1), (2, .val (.list (.arr 6 (.int .i64))) (.l .n) ([] : List (List Int))), (4, .val (.int .i64) .n r_2), (15, .val (.bool) .n (r_2 != (0 : Int)))]) (by subst hA; rfl) ?_
  clear hM hA M A
  refine tr_cond rfl (fun hc => ?_) (fun hc => ?_)
  · replace H := if_t H hc
    refine tr_keep [0, 2, 4] (σ' := mkSl 64 0 [(0, .val (.list (.st [.int .i64, .int .i64, .int .i64])) .n h_1), (2, .val (.list (.arr 6 (.int .i64))) (.l .n) ([] : List (List Int))), (4, .val (.int .i64) .n r_2)]) rfl ?_
    refine tr_seq ?_
    refine tr_rg hP tabOk hsp fun A hA M hM => ?_
    cbv
    refine hM _ ?_
    refine tr_ret ?_
    have hr := Option.some.inj H
    subst hr
    subst hA
    exact rfl
  · replace H := if_f H hc
    refine tr_keep [0, 2, 4] (σ' := mkSl 64 0 [(0, .val (.list (.st [.int .i64, .int .i64, .int .i64])) .n h_1), (2, .val (.list (.arr 6 (.int .i64))) (.l .n) ([] : List (List Int))), (4, .val (.int .i64) .n r_2)]) rfl ?_
    refine tr_skip ?_
    refine tr_seq ?_
    refine tr_rg hP tabOk hsp fun A hA M hM => ?_
    cbv
    obtain ⟨r_3, hr1, H⟩ := bind_out H
    obtain ⟨pq1, eq1⟩ := hc37 hr1
    refine ⟨by subst hA; subst eq1; exact pq1, hM _ ?_⟩
    refine tr_seq ?_
    refine tr_keep [0, 2, 5] (σ' := mkSl 64 0 [(0, .val (.list (.st [.int .i64, .int .i64, .int .i64])) .n h_1), (2, .val (.list (.arr 6 (.int .i64))) (.l .n) ([] : List (List Int))), (5, .val (.box (.arr 6 (.int .i64))) (.b .n) r_3)]) (by subst hA; subst eq1; rfl) ?_
    clear pq1 eq1 hr1 hM hA M A
    refine tr_rg hP tabOk hsp fun A hA M hM => ?_
    cbv
    refine hM _ ?_
    refine tr_seq ?_
    refine tr_seq ?_
    refine tr_keep [0, 2, 5, 6] (σ' := mkSl 64 0 [(0, .val (.list (.st [.int .i64, .int .i64, .int .i64])) .n h_1), (2, .val (.list (.arr 6 (.int .i64))) (.l .n) ([] : List (List Int))), (5, .val (.box (.arr 6 (.int .i64))) (.b .n) r_3), (6, .val (.int .i64) .n (1 : Int))]) (by subst hA; rfl) ?_
    clear hM hA M A
    refine tr_rg hP tabOk hsp fun A hA M hM => ?_
    cbv
    refine hM _ ?_
    refine tr_block ?_
    refine tr_keep [0, 2, 5, 6, 19, 20] (σ' := mkSl 64 0 [(0, .val (.list (.st [.int .i64, .int .i64, .int .i64])) .n h_1), (2, .val (.list (.arr 6 (.int .i64))) (.l .n) ([] : List (List Int))), (5, .val (.box (.arr 6 (.int .i64))) (.b .n) r_3), (6, .val (.int .i64) .n (1 : Int)), (19, .val (.arr 6 (.int .i64)) .n r_3), (20, .val (.int .i64) .n (0 : Int))]) (by subst hA; rfl) ?_
    clear hM hA M A
    obtain ⟨q, hq, Hl, Hr⟩ := bindE_out H
    refine tr_loopE 0 (fun x : Int × Int => cut_All_L1 r_3 x.1 x.2) (fun x : Int × Int => mkSl 64 0 [(0, .val (.list (.st [.int .i64, .int .i64, .int .i64])) .n h_1), (2, .val (.list (.arr 6 (.int .i64))) (.l .n) ([] : List (List Int))), (5, .val (.box (.arr 6 (.int .i64))) (.b .n) r_3), (6, .val (.int .i64) .n x.1), (19, .val (.arr 6 (.int .i64)) .n r_3), (20, .val (.int .i64) .n x.2)]) [0, 2, 5, 6, 19, 20] (fun q_6 : Unit => mkSl 64 0 [(0, .val (.list (.st [.int .i64, .int .i64, .int .i64])) .n h_1), (2, .val (.list (.arr 6 (.int .i64))) (.l .n) ([] : List (List Int))), (5, .val (.box (.arr 6 (.int .i64))) (.b .n) r_3)]) [0, 2, 5] hq rfl Hr (fun q_6 hl σ' h => ?_) (fun x r1 H => ?_)
    · replace H := Hl q_6 hl
      refine tr_keep [0, 2, 5] h ?_
      refine tr_seq ?_
      refine tr_rg hP tabOk hsp fun A hA M hM => ?_
      cbv
      refine hM _ ?_
      refine tr_seq ?_
      refine tr_keep [0, 2, 5, 9] (σ' := mkSl 64 0 [(0, .val (.list (.st [.int .i64, .int .i64, .int .i64])) .n h_1), (2, .val (.list (.arr 6 (.int .i64))) (.l .n) ([] : List (List Int))), (5, .val (.box (.arr 6 (.int .i64))) (.b .n) r_3), (9, .val (.list (.arr 6 (.int .i64))) (.l .n) ([] : List (List Int)))]) (by subst hA; rfl) ?_
      clear hM hA M A
      refine tr_rg hP tabOk hsp fun A hA M hM => ?_
      cbv
      refine hM _ ?_
      refine tr_block ?_
      refine tr_keep [0, 2, 5, 9, 10] (σ' := mkSl 64 0 [(0, .val (.list (.st [.int .i64, .int .i64, .int .i64])) .n h_1), (2, .val (.list (.arr 6 (.int .i64))) (.l .n) ([] : List (List Int))), (5, .val (.box (.arr 6 (.int .i64))) (.b .n) r_3), (9, .val (.list (.arr 6 (.int .i64))) (.l .n) ([] : List (List Int))), (10, .val (.box (.arr 6 (.int .i64))) (.b .n) [(0 : Int), (0 : Int), (0 : Int), (0 : Int), (0 : Int), (0 : Int)])]) (by subst hA; rfl) ?_
      clear hM hA M A
      refine tr_loopR (fun x : List (List Int) × List Int => cut_All_L2 h_1 r_3 x.1 x.2) (fun x : List (List Int) × List Int => mkSl 64 0 [(0, .val (.list (.st [.int .i64, .int .i64, .int .i64])) .n h_1), (2, .val (.list (.arr 6 (.int .i64))) (.l .n) ([] : List (List Int))), (5, .val (.box (.arr 6 (.int .i64))) (.b .n) r_3), (9, .val (.list (.arr 6 (.int .i64))) (.l .n) x.1), (10, .val (.box (.arr 6 (.int .i64))) (.b .n) x.2)]) [0, 2, 5, 9, 10] H rfl (fun x r2 H => ?_)
      obtain ⟨out_9, c_10⟩ := x
      replace H : cut_All_L2 h_1 r_3 out_9 c_10 = some r2 := H
      unfold cut_All_L2 at H
      refine tr_seq ?_
      refine tr_block ?_
      refine tr_seq ?_
      refine tr_seq ?_
      refine tr_rg hP tabOk hsp fun A hA M hM => ?_
      cbv
      obtain ⟨r_11, hr1, H⟩ := bind_out H
      obtain ⟨pq1, eq1⟩ := hc35 hr1
      refine ⟨by subst hA; subst eq1; exact pq1, hM _ ?_⟩
      refine tr_keep [0, 2, 5, 9, 10, 35] (σ' := mkSl 64 0 [(0, .val (.list (.st [.int .i64, .int .i64, .int .i64])) .n h_1), (2, .val (.list (.arr 6 (.int .i64))) (.l .n) ([] : List (List Int))), (5, .val (.box (.arr 6 (.int .i64))) (.b .n) r_3), (9, .val (.list (.arr 6 (.int .i64))) (.l .n) out_9), (10, .val (.box (.arr 6 (.int .i64))) (.b .n) c_10), (35, .val (.bool) .n (eqA6I r_11 c_10))]) (by subst hA; subst eq1; rfl) ?_
      clear pq1 eq1 hr1 hM hA M A
      refine tr_join (z := r2) (fun y : List (List Int) => cut_All_J3 r_3 c_10 y) (fun y : List (List Int) => mkSl 64 0 [(0, .val (.list (.st [.int .i64, .int .i64, .int .i64])) .n h_1), (2, .val (.list (.arr 6 (.int .i64))) (.l .n) ([] : List (List Int))), (5, .val (.box (.arr 6 (.int .i64))) (.b .n) r_3), (9, .val (.list (.arr 6 (.int .i64))) (.l .n) y), (10, .val (.box (.arr 6 (.int .i64))) (.b .n) c_10)]) [0, 2, 5, 9, 10] (fun _ h => h) (fun y H => ?_) (fun hJ3 => ?_)
      · obtain ⟨out_12, rfl⟩ : ∃ v, v = y := ⟨y, rfl⟩
        replace H : cut_All_J3 r_3 c_10 out_12 = some r2 := H
        unfold cut_All_J3 at H
        refine tr_seq ?_
        refine tr_rg hP tabOk hsp fun A hA M hM => ?_
        cbv
        refine hM _ ?_
        refine tr_seq ?_
        refine tr_block ?_
        refine tr_keep [0, 2, 5, 9, 10, 11] (σ' := mkSl 64 0 [(0, .val (.list (.st [.int .i64, .int .i64, .int .i64])) .n h_1), (2, .val (.list (.arr 6 (.int .i64))) (.l .n) ([] : List (List Int))), (5, .val (.box (.arr 6 (.int .i64))) (.b .n) r_3), (9, .val (.list (.arr 6 (.int .i64))) (.l .n) out_12), (10, .val (.box (.arr 6 (.int .i64))) (.b .n) c_10), (11, .val (.int .i64) .n (5 : Int))]) (by subst hA; rfl) ?_
        clear hM hA M A
        obtain ⟨q_17, hq, H⟩ := bind_out H
        refine tr_loopB 4 (fun x : List Int × Int => cut_All_L4 r_3 x.1 x.2) (fun x : List Int × Int => mkSl 64 0 [(0, .val (.list (.st [.int .i64, .int .i64, .int .i64])) .n h_1), (2, .val (.list (.arr 6 (.int .i64))) (.l .n) ([] : List (List Int))), (5, .val (.box (.arr 6 (.int .i64))) (.b .n) r_3), (9, .val (.list (.arr 6 (.int .i64))) (.l .n) out_12), (10, .val (.box (.arr 6 (.int .i64))) (.b .n) x.1), (11, .val (.int .i64) .n x.2)]) [0, 2, 5, 9, 10, 11] (fun q_17 : List Int × Int => mkSl 64 0 [(0, .val (.list (.st [.int .i64, .int .i64, .int .i64])) .n h_1), (2, .val (.list (.arr 6 (.int .i64))) (.l .n) ([] : List (List Int))), (5, .val (.box (.arr 6 (.int .i64))) (.b .n) r_3), (9, .val (.list (.arr 6 (.int .i64))) (.l .n) out_12), (10, .val (.box (.arr 6 (.int .i64))) (.b .n) q_17.1), (11, .val (.int .i64) .n q_17.2)]) [0, 2, 5, 9, 10, 11] hq rfl (fun σ' h => ?_) (fun x r4 H => ?_)
        · refine tr_keep [0, 2, 5, 9, 10, 11] h ?_
          refine tr_seq ?_
          refine tr_seq ?_
          refine tr_rg hP tabOk hsp fun A hA M hM => ?_
          cbv
          refine hM _ ?_
          refine tr_keep [0, 2, 5, 9, 10, 11, 56] (σ' := mkSl 64 0 [(0, .val (.list (.st [.int .i64, .int .i64, .int .i64])) .n h_1), (2, .val (.list (.arr 6 (.int .i64))) (.l .n) ([] : List (List Int))), (5, .val (.box (.arr 6 (.int .i64))) (.b .n) r_3), (9, .val (.list (.arr 6 (.int .i64))) (.l .n) out_12), (10, .val (.box (.arr 6 (.int .i64))) (.b .n) q_17.1), (11, .val (.int .i64) .n q_17.2), (56, .val (.bool) .n (decide (q_17.2 < (0 : Int))))]) (by subst hA; rfl) ?_
          clear hM hA M A
          refine tr_cond rfl (fun hc => ?_) (fun hc => ?_)
          · replace H := if_t H hc
            refine tr_keep [0, 2, 5, 9, 10, 11] (σ' := mkSl 64 0 [(0, .val (.list (.st [.int .i64, .int .i64, .int .i64])) .n h_1), (2, .val (.list (.arr 6 (.int .i64))) (.l .n) ([] : List (List Int))), (5, .val (.box (.arr 6 (.int .i64))) (.b .n) r_3), (9, .val (.list (.arr 6 (.int .i64))) (.l .n) out_12), (10, .val (.box (.arr 6 (.int .i64))) (.b .n) q_17.1), (11, .val (.int .i64) .n q_17.2)]) rfl ?_
            refine tr_seq ?_
            refine tr_rg hP tabOk hsp fun A hA M hM => ?_
            cbv
            refine hM _ ?_
            refine tr_ret ?_
            have hr := Option.some.inj H
            refine Exists.intro _ (And.intro hr.symm (fun hr => ?_))
            subst hr
            subst hA
            exact rfl
          · replace H := if_f H hc
            refine tr_keep [0, 2, 5, 9, 10, 11] (σ' := mkSl 64 0 [(0, .val (.list (.st [.int .i64, .int .i64, .int .i64])) .n h_1), (2, .val (.list (.arr 6 (.int .i64))) (.l .n) ([] : List (List Int))), (5, .val (.box (.arr 6 (.int .i64))) (.b .n) r_3), (9, .val (.list (.arr 6 (.int .i64))) (.l .n) out_12), (10, .val (.box (.arr 6 (.int .i64))) (.b .n) q_17.1), (11, .val (.int .i64) .n q_17.2)]) rfl ?_
            refine tr_skip ?_
            refine tr_rg hP tabOk hsp fun A hA M hM => ?_
            cbv
            obtain ⟨ob1, H⟩ := ck_out H
            obtain ⟨ob2, H⟩ := ck_out H
            refine ⟨by subst hA; exact ob1, by subst hA; exact ob2, hM _ ?_⟩
            refine tr_seq ?_
            refine tr_keepL [0, 2, 5, 9, 10] (fun c_19 : List Int => mkSl 64 0 [(0, .val (.list (.st [.int .i64, .int .i64, .int .i64])) .n h_1), (2, .val (.list (.arr 6 (.int .i64))) (.l .n) ([] : List (List Int))), (5, .val (.box (.arr 6 (.int .i64))) (.b .n) r_3), (9, .val (.list (.arr 6 (.int .i64))) (.l .n) out_12), (10, .val (.box (.arr 6 (.int .i64))) (.b .n) c_19)]) H (by subst hA; rfl) (fun c_19 H => ?_)
            clear ob2 ob1 hM hA M A
            refine tr_rg hP tabOk hsp fun A hA M hM => ?_
            cbv
            refine hM _ ?_
            refine tr_keep [0, 2, 5, 9, 63] (σ' := mkSl 64 0 [(0, .val (.list (.st [.int .i64, .int .i64, .int .i64])) .n h_1), (2, .val (.list (.arr 6 (.int .i64))) (.l .n) ([] : List (List Int))), (5, .val (.box (.arr 6 (.int .i64))) (.b .n) r_3), (9, .val (.list (.arr 6 (.int .i64))) (.l .n) out_12), (63, .val (.arr 6 (.int .i64)) .n c_19)]) (by subst hA; rfl) ?_
            clear hM hA M A
            refine tr_rg hP tabOk hsp fun A hA M hM => ?_
            cbv
            refine hM _ ?_
            exact Exists.intro _ (And.intro (Option.some.inj H).symm (by subst hA; rfl))
        · obtain ⟨c_13, p_14⟩ := x
          replace H : cut_All_L4 r_3 c_13 p_14 = some r4 := H
          unfold cut_All_L4 at H
          refine tr_seq ?_
          refine tr_seq ?_
          refine tr_rg hP tabOk hsp fun A hA M hM => ?_
          cbv
          obtain ⟨ob1, H⟩ := ck_out H
          obtain ⟨ob2, H⟩ := ck_out H
          refine ⟨by subst hA; exact ob1, by subst hA; exact ob2, hM _ ?_⟩
          refine tr_keep [0, 2, 5, 9, 10, 11, 50] (σ' := mkSl 64 0 [(0, .val (.list (.st [.int .i64, .int .i64, .int .i64])) .n h_1), (2, .val (.list (.arr 6 (.int .i64))) (.l .n) ([] : List (List Int))), (5, .val (.box (.arr 6 (.int .i64))) (.b .n) r_3), (9, .val (.list (.arr 6 (.int .i64))) (.l .n) out_12), (10, .val (.box (.arr 6 (.int .i64))) (.b .n) c_13), (11, .val (.int .i64) .n p_14), (50, .val (.bool) .n ((decide (p_14 ≥ (0 : Int))) && ((c_13.getD p_14.toNat (0 : Int)) == (r_3.getD p_14.toNat (0 : Int)))))]) (by subst hA; rfl) ?_
          clear ob2 ob1 hM hA M A
          refine tr_cond rfl (fun hc => ?_) (fun hc => ?_)
          · replace H := if_t H hc
            refine tr_keep [0, 2, 5, 9, 10, 11] (σ' := mkSl 64 0 [(0, .val (.list (.st [.int .i64, .int .i64, .int .i64])) .n h_1), (2, .val (.list (.arr 6 (.int .i64))) (.l .n) ([] : List (List Int))), (5, .val (.box (.arr 6 (.int .i64))) (.b .n) r_3), (9, .val (.list (.arr 6 (.int .i64))) (.l .n) out_12), (10, .val (.box (.arr 6 (.int .i64))) (.b .n) c_13), (11, .val (.int .i64) .n p_14)]) rfl ?_
            refine tr_skip ?_
            refine tr_block ?_
            refine tr_seq ?_
            refine tr_rg hP tabOk hsp fun A hA M hM => ?_
            cbv
            obtain ⟨ob1, H⟩ := ck_out H
            refine ⟨by subst hA; exact ob1, hM _ ?_⟩
            refine tr_keepL [0, 2, 5, 9, 10, 11] (fun c_18 : List Int => mkSl 64 0 [(0, .val (.list (.st [.int .i64, .int .i64, .int .i64])) .n h_1), (2, .val (.list (.arr 6 (.int .i64))) (.l .n) ([] : List (List Int))), (5, .val (.box (.arr 6 (.int .i64))) (.b .n) r_3), (9, .val (.list (.arr 6 (.int .i64))) (.l .n) out_12), (10, .val (.box (.arr 6 (.int .i64))) (.b .n) c_18), (11, .val (.int .i64) .n p_14)]) H (by subst hA; rfl) (fun c_18 H => ?_)
            clear ob1 hM hA M A
            refine tr_rg hP tabOk hsp fun A hA M hM => ?_
            cbv
            refine hM _ ?_
            exact Exists.intro _ (And.intro (Option.some.inj H).symm (by subst hA; rfl))
          · replace H := if_f H hc
            refine tr_keep [0, 2, 5, 9, 10, 11] (σ' := mkSl 64 0 [(0, .val (.list (.st [.int .i64, .int .i64, .int .i64])) .n h_1), (2, .val (.list (.arr 6 (.int .i64))) (.l .n) ([] : List (List Int))), (5, .val (.box (.arr 6 (.int .i64))) (.b .n) r_3), (9, .val (.list (.arr 6 (.int .i64))) (.l .n) out_12), (10, .val (.box (.arr 6 (.int .i64))) (.b .n) c_13), (11, .val (.int .i64) .n p_14)]) rfl ?_
            refine tr_exit ?_
            exact And.intro rfl (Exists.intro _ (And.intro (Option.some.inj H).symm (by rfl)))
      · refine tr_cond rfl (fun hc => ?_) (fun hc => ?_)
        · replace H := if_t H hc
          refine tr_keep [0, 2, 5, 9, 10] (σ' := mkSl 64 0 [(0, .val (.list (.st [.int .i64, .int .i64, .int .i64])) .n h_1), (2, .val (.list (.arr 6 (.int .i64))) (.l .n) ([] : List (List Int))), (5, .val (.box (.arr 6 (.int .i64))) (.b .n) r_3), (9, .val (.list (.arr 6 (.int .i64))) (.l .n) out_9), (10, .val (.box (.arr 6 (.int .i64))) (.b .n) c_10)]) rfl ?_
          refine tr_rg hP tabOk hsp fun A hA M hM => ?_
          cbv
          obtain ⟨ob1, H⟩ := ck_out H
          refine ⟨by subst hA; exact ob1, hM _ ?_⟩
          exact hJ3 (out_9 ++ [c_10]) _ H (by subst hA; rfl)
        · replace H := if_f H hc
          refine tr_keep [0, 2, 5, 9, 10] (σ' := mkSl 64 0 [(0, .val (.list (.st [.int .i64, .int .i64, .int .i64])) .n h_1), (2, .val (.list (.arr 6 (.int .i64))) (.l .n) ([] : List (List Int))), (5, .val (.box (.arr 6 (.int .i64))) (.b .n) r_3), (9, .val (.list (.arr 6 (.int .i64))) (.l .n) out_9), (10, .val (.box (.arr 6 (.int .i64))) (.b .n) c_10)]) rfl ?_
          refine tr_skip ?_
          exact hJ3 out_9 _ H (by rfl)
    · obtain ⟨many_4, t20_5⟩ := x
      replace H : cut_All_L1 r_3 many_4 t20_5 = some r1 := H
      unfold cut_All_L1 at H
      refine tr_seq ?_
      refine tr_rg hP tabOk hsp fun A hA M hM => ?_
      cbv
      refine hM _ ?_
      refine tr_seq ?_
      refine tr_keep [0, 2, 5, 6, 19, 20, 21] (σ' := mkSl 64 0 [(0, .val (.list (.st [.int .i64, .int .i64, .int .i64])) .n h_1), (2, .val (.list (.arr 6 (.int .i64))) (.l .n) ([] : List (List Int))), (5, .val (.box (.arr 6 (.int .i64))) (.b .n) r_3), (6, .val (.int .i64) .n many_4), (19, .val (.arr 6 (.int .i64)) .n r_3), (20, .val (.int .i64) .n t20_5), (21, .val (.bool) .n (decide (t20_5 < (6 : Int))))]) (by subst hA; rfl) ?_
      clear hM hA M A
      refine tr_cond rfl (fun hc => ?_) (fun hc => ?_)
      · replace H := if_t H hc
        refine tr_keep [0, 2, 5, 6, 19, 20] (σ' := mkSl 64 0 [(0, .val (.list (.st [.int .i64, .int .i64, .int .i64])) .n h_1), (2, .val (.list (.arr 6 (.int .i64))) (.l .n) ([] : List (List Int))), (5, .val (.box (.arr 6 (.int .i64))) (.b .n) r_3), (6, .val (.int .i64) .n many_4), (19, .val (.arr 6 (.int .i64)) .n r_3), (20, .val (.int .i64) .n t20_5)]) rfl ?_
        refine tr_skip ?_
        refine tr_seq ?_
        refine tr_block ?_
        refine tr_seq ?_
        refine tr_rg hP tabOk hsp fun A hA M hM => ?_
        cbv
        obtain ⟨ob1, H⟩ := ck_out H
        refine ⟨by subst hA; exact ob1, hM _ ?_⟩
        refine tr_seq ?_
        refine tr_keepL [0, 2, 5, 6, 8, 19, 20] (fun k_7 : Int => mkSl 64 0 [(0, .val (.list (.st [.int .i64, .int .i64, .int .i64])) .n h_1), (2, .val (.list (.arr 6 (.int .i64))) (.l .n) ([] : List (List Int))), (5, .val (.box (.arr 6 (.int .i64))) (.b .n) r_3), (6, .val (.int .i64) .n many_4), (8, .val (.int .i64) .n k_7), (19, .val (.arr 6 (.int .i64)) .n r_3), (20, .val (.int .i64) .n t20_5)]) H (by subst hA; rfl) (fun k_7 H => ?_)
        clear ob1 hM hA M A
        refine tr_rg hP tabOk hsp fun A hA M hM => ?_
        cbv
        refine hM _ ?_
        refine tr_seq ?_
        refine tr_keepL [0, 2, 5, 6, 19, 20] (fun many_8 : Int => mkSl 64 0 [(0, .val (.list (.st [.int .i64, .int .i64, .int .i64])) .n h_1), (2, .val (.list (.arr 6 (.int .i64))) (.l .n) ([] : List (List Int))), (5, .val (.box (.arr 6 (.int .i64))) (.b .n) r_3), (6, .val (.int .i64) .n many_8), (19, .val (.arr 6 (.int .i64)) .n r_3), (20, .val (.int .i64) .n t20_5)]) H (by subst hA; rfl) (fun many_8 H => ?_)
        clear hM hA M A
        refine tr_rg hP tabOk hsp fun A hA M hM => ?_
        cbv
        refine hM _ ?_
        refine tr_keep [0, 2, 5, 6, 19, 20, 28] (σ' := mkSl 64 0 [(0, .val (.list (.st [.int .i64, .int .i64, .int .i64])) .n h_1), (2, .val (.list (.arr 6 (.int .i64))) (.l .n) ([] : List (List Int))), (5, .val (.box (.arr 6 (.int .i64))) (.b .n) r_3), (6, .val (.int .i64) .n many_8), (19, .val (.arr 6 (.int .i64)) .n r_3), (20, .val (.int .i64) .n t20_5), (28, .val (.bool) .n (decide (many_8 > (4096 : Int))))]) (by subst hA; rfl) ?_
        clear hM hA M A
        refine tr_cond rfl (fun hc => ?_) (fun hc => ?_)
        · replace H := if_t H hc
          refine tr_keep [0, 2, 5, 6, 19, 20] (σ' := mkSl 64 0 [(0, .val (.list (.st [.int .i64, .int .i64, .int .i64])) .n h_1), (2, .val (.list (.arr 6 (.int .i64))) (.l .n) ([] : List (List Int))), (5, .val (.box (.arr 6 (.int .i64))) (.b .n) r_3), (6, .val (.int .i64) .n many_8), (19, .val (.arr 6 (.int .i64)) .n r_3), (20, .val (.int .i64) .n t20_5)]) rfl ?_
          refine tr_seq ?_
          refine tr_rg hP tabOk hsp fun A hA M hM => ?_
          cbv
          refine hM _ ?_
          refine tr_ret ?_
          have hr := Option.some.inj H
          refine Exists.intro _ (And.intro hr.symm (fun hr => ?_))
          subst hr
          subst hA
          exact rfl
        · replace H := if_f H hc
          refine tr_keep [0, 2, 5, 6, 19, 20] (σ' := mkSl 64 0 [(0, .val (.list (.st [.int .i64, .int .i64, .int .i64])) .n h_1), (2, .val (.list (.arr 6 (.int .i64))) (.l .n) ([] : List (List Int))), (5, .val (.box (.arr 6 (.int .i64))) (.b .n) r_3), (6, .val (.int .i64) .n many_8), (19, .val (.arr 6 (.int .i64)) .n r_3), (20, .val (.int .i64) .n t20_5)]) rfl ?_
          refine tr_skip ?_
          refine tr_rg hP tabOk hsp fun A hA M hM => ?_
          cbv
          refine hM _ ?_
          exact Exists.intro _ (And.intro (Option.some.inj H).symm (by subst hA; rfl))
      · replace H := if_f H hc
        refine tr_keep [0, 2, 5, 6, 19, 20] (σ' := mkSl 64 0 [(0, .val (.list (.st [.int .i64, .int .i64, .int .i64])) .n h_1), (2, .val (.list (.arr 6 (.int .i64))) (.l .n) ([] : List (List Int))), (5, .val (.box (.arr 6 (.int .i64))) (.b .n) r_3), (6, .val (.int .i64) .n many_4), (19, .val (.arr 6 (.int .i64)) .n r_3), (20, .val (.int .i64) .n t20_5)]) rfl ?_
        refine tr_exit ?_
        exact And.intro rfl (Exists.intro _ (And.intro (Option.some.inj H).symm (by rfl)))
theorem cut_All_sp : ∃ (pg : PT.denL [.list (.st [.int .i64, .int .i64, .int .i64])] → Prop) (fg : PT.denL [.list (.st [.int .i64, .int .i64, .int .i64])] → PT.denL [.list (.arr 6 (.int .i64)), .int .i64]), SpecRuns Try.prog 21 ⟨[.list (.st [.int .i64, .int .i64, .int .i64])], [.v], [.list (.arr 6 (.int .i64)), .int .i64], [.l .n, .n], pg, fg⟩ ∧ (∀ {a1 : List ((Int × Int × Int × Unit))} {y : List (List Int) × Int}, cut_All a1 = some y → pg (a1, ()) ∧ y = ((fg (a1, ())).1, (fg (a1, ())).2.1)) ∧ (∀ {a1 : List ((Int × Int × Int × Unit))}, (cut_All a1).isSome = true → pg (a1, ())) ∧ ∀ {a1 : List ((Int × Int × Int × Unit))}, (cut_All a1).getD (([] : List (List Int)), (0 : Int)) = ((fg (a1, ())).1, (fg (a1, ())).2.1) := by
  obtain ⟨pg, fg, h, hc, hi, hd⟩ := spec_hide cut_All_runs
  refine ⟨pg, fg, h, ?_, ?_, ?_⟩
  · intro a1 y e
    obtain ⟨h1, h2⟩ := hc (a1, ()) (y.1, y.2, ()) (congrArg (Option.map fun r => (r.1, r.2, ())) e)
    exact ⟨h1, by first | (rw [h2]; done) | (rw [h2]; rfl)⟩
  · intro a1
    intro e
    exact hi (a1, ()) (map_isSome e)
  · intro a1
    rw [hd (a1, ())]
    cases cut_All a1 <;> rfl
end Go.Proofs.Ytdahfpfkjljojaa.Ct
