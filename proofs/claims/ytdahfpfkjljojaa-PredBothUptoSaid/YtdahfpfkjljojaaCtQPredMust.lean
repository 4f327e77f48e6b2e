/- Functions of the program as functions that may fail, and that the code computes them (printed). Each theorem bears its conditions itself. -/
import Derived.Test.YtdahfpfkjljojaaCtDefs
import Derived.Test.YtdahfpfkjljojaaCtTab
import Derived.Test.YtdahfpfkjljojaaCtQsent
import Derived.Test.YtdahfpfkjljojaaCtQlate
import Derived.Test.YtdahfpfkjljojaaCtQpredQMust
import Derived.Test.YtdahfpfkjljojaaCtQstampQCheck
import Derived.Test.YtdahfpfkjljojaaCtQanyTruth
import Derived.Test.YtdahfpfkjljojaaCtQRQSo
import Derived.Test.YtdahfpfkjljojaaCtQcutQRight
import Derived.Test.YtdahfpfkjljojaaCtQRQRest
import Derived.Test.YtdahfpfkjljojaaCtQRQSizes
open Go Go.Proofs.Ytdahfpfkjljojaa.Sy Go.Proofs
set_option maxHeartbeats 4000000
set_option maxRecDepth 100000
set_option cbv.maxSteps 10000000
set_option linter.unusedVariables false
set_option linter.unusedSimpArgs false
namespace Go.Proofs.Ytdahfpfkjljojaa.Ct
theorem PredMust_runs : SpecRuns Try.prog 9 (oSpec [.list (.st [.int .i64, .int .i64, .int .i64]), .arr 6 (.int .u64), .list (.int .i64)] [.v, .v, .v] [.bool] [.n] fun x => (PredMust x.1 x.2.1 x.2.2.1).map fun r => (r, ())) := by
  obtain ⟨pg13, fg13, hs13, hc13, hi13, hd13⟩ := sent_sp
  obtain ⟨pg29, fg29, hs29, hc29, hi29, hd29⟩ := late_sp
  obtain ⟨pg32, fg32, hs32, hc32, hi32, hd32⟩ := pred_Must_sp
  obtain ⟨pg14, fg14, hs14, hc14, hi14, hd14⟩ := stamp_Check_sp
  obtain ⟨pg30, fg30, hs30, hc30, hi30, hd30⟩ := anyTruth_sp
  obtain ⟨pg31, fg31, hs31, hc31, hi31, hd31⟩ := R_So_sp
  obtain ⟨pg16, fg16, hs16, hc16, hi16, hd16⟩ := cut_Right_sp
  obtain ⟨pg33, fg33, hs33, hc33, hi33, hd33⟩ := R_Rest_sp
  obtain ⟨pg27, fg27, hs27, hc27, hi27, hd27⟩ := R_Sizes_sp
  have hsp : SpecsOk Try.prog [(13, ⟨[], [], [.list (.st [.int .i64, .int .i64, .int .i64])], [.l .n], pg13, fg13⟩), (29, ⟨[.list (.st [.int .i64, .int .i64, .int .i64])], [.v], [.list (.list (.bool))], [.l (.l .n)], pg29, fg29⟩), (32, ⟨[.list (.st [.int .i64, .int .i64, .int .i64]), .list (.list (.bool))], [.v, .v], [.bool, .int .i64], [.n, .n], pg32, fg32⟩), (14, ⟨[.list (.st [.int .i64, .int .i64, .int .i64])], [.v], [.int .i64], [.n], pg14, fg14⟩), (30, ⟨[.list (.st [.int .i64, .int .i64, .int .i64]), .arr 6 (.int .u64)], [.v, .v], [.list (.list (.bool))], [.l (.l .n)], pg30, fg30⟩), (31, ⟨[.list (.list (.bool)), .arr 6 (.int .i64)], [.v, .v], [.bool], [.n], pg31, fg31⟩), (16, ⟨[.list (.st [.int .i64, .int .i64, .int .i64]), .arr 6 (.int .i64)], [.v, .v], [.bool, .int .i64], [.n, .n], pg16, fg16⟩), (33, ⟨[.int .i64, .int .i64], [.v, .v], [.int .i64], [.n], pg33, fg33⟩), (27, ⟨[.list (.st [.int .i64, .int .i64, .int .i64])], [.v], [.arr 6 (.int .i64)], [.n], pg27, fg27⟩)] := (specsOk_cons Try.func13 (by kernel_rfl) (by kernel_rfl) hs13 (specsOk_cons Try.func29 (by kernel_rfl) (by kernel_rfl) hs29 (specsOk_cons Try.func32 (by kernel_rfl) (by kernel_rfl) hs32 (specsOk_cons Try.func14 (by kernel_rfl) (by kernel_rfl) hs14 (specsOk_cons Try.func30 (by kernel_rfl) (by kernel_rfl) hs30 (specsOk_cons Try.func31 (by kernel_rfl) (by kernel_rfl) hs31 (specsOk_cons Try.func16 (by kernel_rfl) (by kernel_rfl) hs16 (specsOk_cons Try.func33 (by kernel_rfl) (by kernel_rfl) hs33 (specsOk_cons Try.func27 (by kernel_rfl) (by kernel_rfl) hs27 specsOk_nil)))))))))
  refine runs_of_o tabOk Try.func9 rfl (Nat.le_of_ble_eq_true rfl) rfl ?_
  rintro E ⟨(t0_1 : List ((Int × Int × Int × Unit))), (t1_2 : List Int), (t2_3 : List Int), ⟨⟩⟩ y hP H hw
  obtain ⟨z, H1, rfl⟩ := map_out H
  replace H : PredMust t0_1 t1_2 t2_3 = some z := H1
  clear hw H1
  unfold PredMust at H
  refine tr_keep [0, 1, 2] (σ' := mkSl 111 0 [(0, .val (.list (.st [.int .i64, .int .i64, .int .i64])) .n t0_1), (1, .val (.arr 6 (.int .u64)) .n t1_2), (2, .val (.list (.int .i64)) .n t2_3)]) rfl ?_
  refine tr_seq ?_
  refine tr_rg hP tabOk hsp fun A hA M hM => ?_
  cbv
  refine hM _ ?_
  refine tr_seq ?_
  refine tr_seq ?_
  refine tr_keep [0, 2, 4] (σ' := mkSl 111 0 [(0, .val (.list (.st [.int .i64, .int .i64, .int .i64])) .n t0_1), (2, .val (.list (.int .i64)) .n t2_3), (4, .val (.box (.arr 6 (.int .u64))) (.b .n) t1_2)]) (by subst hA; rfl) ?_
  clear hM hA M A
  refine tr_rg hP tabOk hsp fun A hA M hM => ?_
  cbv
  obtain ⟨r_4, hr1, H⟩ := bind_out H
  obtain ⟨pq1, eq1⟩ := hc13 hr1
  obtain ⟨r_5, hr2, H⟩ := bind_out H
  obtain ⟨pq2, eq2⟩ := hc13 hr2
  obtain ⟨r_6, hr3, H⟩ := bind_out H
  obtain ⟨pq3, eq3⟩ := hc29 hr3
  obtain ⟨r_7, hr4, H⟩ := bind_out H
  obtain ⟨pq4, eq4⟩ := hc32 hr4
  refine ⟨by subst hA; subst eq1; exact pq1, by subst hA; subst eq1; subst eq2; exact pq2, by subst hA; subst eq1; subst eq2; subst eq3; exact pq3, by subst hA; subst eq1; subst eq2; subst eq3; subst eq4; exact pq4, hM _ ?_⟩
  refine tr_seq ?_
  refine tr_keep [0, 2, 4, 7, 8] (σ' := mkSl 111 0 [(0, .val (.list (.st [.int .i64, .int .i64, .int .i64])) .n t0_1), (2, .val (.list (.int .i64)) .n t2_3), (4, .val (.box (.arr 6 (.int .u64))) (.b .n) t1_2), (7, .val (.bool) .n r_7.1), (8, .val (.int .i64) .n r_7.2)]) (by subst hA; subst eq1; subst eq2; subst eq3; subst eq4; rfl) ?_
  clear pq4 eq4 hr4 pq3 eq3 hr3 pq2 eq2 hr2 pq1 eq1 hr1 hM hA M A
  refine tr_rg hP tabOk hsp fun A hA M hM => ?_
  cbv
  refine hM _ ?_
  refine tr_keep [0, 2, 4, 31] (σ' := mkSl 111 0 [(0, .val (.list (.st [.int .i64, .int .i64, .int .i64])) .n t0_1), (2, .val (.list (.int .i64)) .n t2_3), (4, .val (.box (.arr 6 (.int .u64))) (.b .n) t1_2), (31, .val (.bool) .n ((r_7.2 != (0 : Int)) || (!r_7.1)))]) (by subst hA; rfl) ?_
  clear hM hA M A
  refine tr_cond rfl (fun hc => ?_) (fun hc => ?_)
  · replace H := if_t H hc
    refine tr_keep [0, 2, 4] (σ' := mkSl 111 0 [(0, .val (.list (.st [.int .i64, .int .i64, .int .i64])) .n t0_1), (2, .val (.list (.int .i64)) .n t2_3), (4, .val (.box (.arr 6 (.int .u64))) (.b .n) t1_2)]) rfl ?_
    refine tr_seq ?_
    refine tr_rg hP tabOk hsp fun A hA M hM => ?_
    cbv
    refine hM _ ?_
    refine tr_ret ?_
    have hr := Option.some.inj H
    subst hr
    subst hA
    exact rfl
  · replace H := if_f H hc
    refine tr_keep [0, 2, 4] (σ' := mkSl 111 0 [(0, .val (.list (.st [.int .i64, .int .i64, .int .i64])) .n t0_1), (2, .val (.list (.int .i64)) .n t2_3), (4, .val (.box (.arr 6 (.int .u64))) (.b .n) t1_2)]) rfl ?_
    refine tr_skip ?_
    refine tr_seq ?_
    refine tr_seq ?_
    refine tr_rg hP tabOk hsp fun A hA M hM => ?_
    cbv
    obtain ⟨r_8, hr1, H⟩ := bind_out H
    obtain ⟨pq1, eq1⟩ := hc14 hr1
    refine ⟨by subst hA; subst eq1; exact pq1, hM _ ?_⟩
    refine tr_keep [0, 2, 4, 34] (σ' := mkSl 111 0 [(0, .val (.list (.st [.int .i64, .int .i64, .int .i64])) .n t0_1), (2, .val (.list (.int .i64)) .n t2_3), (4, .val (.box (.arr 6 (.int .u64))) (.b .n) t1_2), (34, .val (.bool) .n (r_8 != (0 : Int)))]) (by subst hA; subst eq1; rfl) ?_
    clear pq1 eq1 hr1 hM hA M A
    refine tr_cond rfl (fun hc => ?_) (fun hc => ?_)
    · replace H := if_t H hc
      refine tr_keep [0, 2, 4] (σ' := mkSl 111 0 [(0, .val (.list (.st [.int .i64, .int .i64, .int .i64])) .n t0_1), (2, .val (.list (.int .i64)) .n t2_3), (4, .val (.box (.arr 6 (.int .u64))) (.b .n) t1_2)]) rfl ?_
      refine tr_seq ?_
      refine tr_rg hP tabOk hsp fun A hA M hM => ?_
      cbv
      refine hM _ ?_
      refine tr_ret ?_
      have hr := Option.some.inj H
      subst hr
      subst hA
      exact rfl
    · replace H := if_f H hc
      refine tr_keep [0, 2, 4] (σ' := mkSl 111 0 [(0, .val (.list (.st [.int .i64, .int .i64, .int .i64])) .n t0_1), (2, .val (.list (.int .i64)) .n t2_3), (4, .val (.box (.arr 6 (.int .u64))) (.b .n) t1_2)]) rfl ?_
      refine tr_skip ?_
      refine tr_seq ?_
      refine tr_rg hP tabOk hsp fun A hA M hM => ?_
      cbv
      obtain ⟨r_9, hr1, H⟩ := bind_out H
      obtain ⟨pq1, eq1⟩ := hc30 hr1
      refine ⟨by subst hA; subst eq1; exact pq1, hM _ ?_⟩
      refine tr_seq ?_
      refine tr_keep [0, 2, 9] (σ' := mkSl 111 0 [(0, .val (.list (.st [.int .i64, .int .i64, .int .i64])) .n t0_1), (2, .val (.list (.int .i64)) .n t2_3), (9, .val (.list (.list (.bool))) (.l (.l .n)) r_9)]) (by subst hA; subst eq1; rfl) ?_
      clear pq1 eq1 hr1 hM hA M A
      refine tr_rg hP tabOk hsp fun A hA M hM => ?_
      cbv
      obtain ⟨r_10, hr1, H⟩ := bind_out H
      obtain ⟨pq1, eq1⟩ := hc32 hr1
      refine ⟨by subst hA; subst eq1; exact pq1, hM _ ?_⟩
      refine tr_seq ?_
      refine tr_seq ?_
      refine tr_keep [0, 2, 9, 10, 11] (σ' := mkSl 111 0 [(0, .val (.list (.st [.int .i64, .int .i64, .int .i64])) .n t0_1), (2, .val (.list (.int .i64)) .n t2_3), (9, .val (.list (.list (.bool))) (.l (.l .n)) r_9), (10, .val (.bool) .n r_10.1), (11, .val (.int .i64) .n r_10.2)]) (by subst hA; subst eq1; rfl) ?_
      clear pq1 eq1 hr1 hM hA M A
      refine tr_rg hP tabOk hsp fun A hA M hM => ?_
      cbv
      refine hM _ ?_
      refine tr_keep [0, 2, 9, 10, 11, 45] (σ' := mkSl 111 0 [(0, .val (.list (.st [.int .i64, .int .i64, .int .i64])) .n t0_1), (2, .val (.list (.int .i64)) .n t2_3), (9, .val (.list (.list (.bool))) (.l (.l .n)) r_9), (10, .val (.bool) .n r_10.1), (11, .val (.int .i64) .n r_10.2), (45, .val (.bool) .n (r_10.2 != (0 : Int)))]) (by subst hA; rfl) ?_
      clear hM hA M A
      refine tr_cond rfl (fun hc => ?_) (fun hc => ?_)
      · replace H := if_t H hc
        refine tr_keep [0, 2, 9, 10, 11] (σ' := mkSl 111 0 [(0, .val (.list (.st [.int .i64, .int .i64, .int .i64])) .n t0_1), (2, .val (.list (.int .i64)) .n t2_3), (9, .val (.list (.list (.bool))) (.l (.l .n)) r_9), (10, .val (.bool) .n r_10.1), (11, .val (.int .i64) .n r_10.2)]) rfl ?_
        refine tr_seq ?_
        refine tr_rg hP tabOk hsp fun A hA M hM => ?_
        cbv
        refine hM _ ?_
        refine tr_ret ?_
        have hr := Option.some.inj H
        subst hr
        subst hA
        exact rfl
      · replace H := if_f H hc
        refine tr_keep [0, 2, 9, 10, 11] (σ' := mkSl 111 0 [(0, .val (.list (.st [.int .i64, .int .i64, .int .i64])) .n t0_1), (2, .val (.list (.int .i64)) .n t2_3), (9, .val (.list (.list (.bool))) (.l (.l .n)) r_9), (10, .val (.bool) .n r_10.1), (11, .val (.int .i64) .n r_10.2)]) rfl ?_
        refine tr_skip ?_
        refine tr_seq ?_
        refine tr_rg hP tabOk hsp fun A hA M hM => ?_
        cbv
        refine hM _ ?_
        refine tr_seq ?_
        refine tr_keepL [0, 2, 9, 10, 12] (fun t12_11 : List Int => mkSl 111 0 [(0, .val (.list (.st [.int .i64, .int .i64, .int .i64])) .n t0_1), (2, .val (.list (.int .i64)) .n t2_3), (9, .val (.list (.list (.bool))) (.l (.l .n)) r_9), (10, .val (.bool) .n r_10.1), (12, .val (.box (.arr 6 (.int .i64))) (.b .n) t12_11)]) H (by subst hA; rfl) (fun t12_11 H => ?_)
        clear hM hA M A
        refine tr_rg hP tabOk hsp fun A hA M hM => ?_
        cbv
        obtain ⟨r_12, hr1, H⟩ := bind_out H
        obtain ⟨pq1, eq1⟩ := hc31 hr1
        refine ⟨by subst hA; subst eq1; exact pq1, hM _ ?_⟩
        refine tr_seq ?_
        refine tr_seq ?_
        refine tr_keep [0, 2, 9, 10, 12, 13] (σ' := mkSl 111 0 [(0, .val (.list (.st [.int .i64, .int .i64, .int .i64])) .n t0_1), (2, .val (.list (.int .i64)) .n t2_3), (9, .val (.list (.list (.bool))) (.l (.l .n)) r_9), (10, .val (.bool) .n r_10.1), (12, .val (.box (.arr 6 (.int .i64))) (.b .n) t12_11), (13, .val (.bool) .n r_12)]) (by subst hA; subst eq1; rfl) ?_
        clear pq1 eq1 hr1 hM hA M A
        refine tr_rg hP tabOk hsp fun A hA M hM => ?_
        cbv
        refine hM _ ?_
        refine tr_block ?_
        refine tr_keepL [0, 2, 9, 10, 12, 13, 56, 57] (fun t56_13 : Int => mkSl 111 0 [(0, .val (.list (.st [.int .i64, .int .i64, .int .i64])) .n t0_1), (2, .val (.list (.int .i64)) .n t2_3), (9, .val (.list (.list (.bool))) (.l (.l .n)) r_9), (10, .val (.bool) .n r_10.1), (12, .val (.box (.arr 6 (.int .i64))) (.b .n) t12_11), (13, .val (.bool) .n r_12), (56, .val (.int .i64) .n t56_13), (57, .val (.int .i64) .n (0 : Int))]) H (by subst hA; rfl) (fun t56_13 H => ?_)
        clear hM hA M A
        obtain ⟨q_19, hq, H⟩ := bind_out H
        refine tr_loopB 0 (fun x : List Int × Bool × Int => PredMust_L1 t0_1 t2_3 r_9 t56_13 x.1 x.2.1 x.2.2) (fun x : List Int × Bool × Int => mkSl 111 0 [(0, .val (.list (.st [.int .i64, .int .i64, .int .i64])) .n t0_1), (2, .val (.list (.int .i64)) .n t2_3), (9, .val (.list (.list (.bool))) (.l (.l .n)) r_9), (10, .val (.bool) .n r_10.1), (12, .val (.box (.arr 6 (.int .i64))) (.b .n) x.1), (13, .val (.bool) .n x.2.1), (56, .val (.int .i64) .n t56_13), (57, .val (.int .i64) .n x.2.2)]) [0, 2, 9, 10, 12, 13, 56, 57] (fun q_19 : List Int × Bool => mkSl 111 0 [(0, .val (.list (.st [.int .i64, .int .i64, .int .i64])) .n t0_1), (10, .val (.bool) .n r_10.1), (12, .val (.box (.arr 6 (.int .i64))) (.b .n) q_19.1), (13, .val (.bool) .n q_19.2)]) [0, 10, 12, 13] hq rfl (fun σ' h => ?_) (fun x r1 H => ?_)
        · refine tr_keep [0, 10, 12, 13] h ?_
          refine tr_seq ?_
          refine tr_rg hP tabOk hsp fun A hA M hM => ?_
          cbv
          obtain ⟨r_31, hr1, H⟩ := bind_out H
          obtain ⟨pq1, eq1⟩ := hc27 hr1
          refine ⟨by subst hA; subst eq1; exact pq1, hM _ ?_⟩
          refine tr_ret ?_
          have hr := Option.some.inj H
          subst hr
          subst hA
          subst eq1
          exact rfl
        · obtain ⟨t12_14, t13_15, t57_16⟩ := x
          replace H : PredMust_L1 t0_1 t2_3 r_9 t56_13 t12_14 t13_15 t57_16 = some r1 := H
          unfold PredMust_L1 at H
          refine tr_seq ?_
          refine tr_rg hP tabOk hsp fun A hA M hM => ?_
          cbv
          refine hM _ ?_
          refine tr_seq ?_
          refine tr_keep [0, 2, 9, 10, 12, 13, 56, 57, 58] (σ' := mkSl 111 0 [(0, .val (.list (.st [.int .i64, .int .i64, .int .i64])) .n t0_1), (2, .val (.list (.int .i64)) .n t2_3), (9, .val (.list (.list (.bool))) (.l (.l .n)) r_9), (10, .val (.bool) .n r_10.1), (12, .val (.box (.arr 6 (.int .i64))) (.b .n) t12_14), (13, .val (.bool) .n t13_15), (56, .val (.int .i64) .n t56_13), (57, .val (.int .i64) .n t57_16), (58, .val (.bool) .n (decide (t57_16 < t56_13)))]) (by subst hA; rfl) ?_
          clear hM hA M A
          refine tr_cond rfl (fun hc => ?_) (fun hc => ?_)
          · replace H := if_t H hc
            refine tr_keep [0, 2, 9, 10, 12, 13, 56, 57] (σ' := mkSl 111 0 [(0, .val (.list (.st [.int .i64, .int .i64, .int .i64])) .n t0_1), (2, .val (.list (.int .i64)) .n t2_3), (9, .val (.list (.list (.bool))) (.l (.l .n)) r_9), (10, .val (.bool) .n r_10.1), (12, .val (.box (.arr 6 (.int .i64))) (.b .n) t12_14), (13, .val (.bool) .n t13_15), (56, .val (.int .i64) .n t56_13), (57, .val (.int .i64) .n t57_16)]) rfl ?_
            refine tr_skip ?_
            refine tr_seq ?_
            refine tr_block ?_
            refine tr_seq ?_
            refine tr_rg hP tabOk hsp fun A hA M hM => ?_
            cbv
            refine hM _ ?_
            refine tr_seq ?_
            refine tr_keep [0, 2, 9, 10, 12, 13, 14, 56, 57] (σ' := mkSl 111 0 [(0, .val (.list (.st [.int .i64, .int .i64, .int .i64])) .n t0_1), (2, .val (.list (.int .i64)) .n t2_3), (9, .val (.list (.list (.bool))) (.l (.l .n)) r_9), (10, .val (.bool) .n r_10.1), (12, .val (.box (.arr 6 (.int .i64))) (.b .n) t12_14), (13, .val (.bool) .n t13_15), (14, .val (.int .i64) .n t57_16), (56, .val (.int .i64) .n t56_13), (57, .val (.int .i64) .n t57_16)]) (by subst hA; rfl) ?_
            clear hM hA M A
            refine tr_rg hP tabOk hsp fun A hA M hM => ?_
            cbv
            refine hM _ ?_
            refine tr_seq ?_
            refine tr_seq ?_
            refine tr_keep [0, 2, 9, 10, 12, 13, 14, 15, 56, 57] (σ' := mkSl 111 0 [(0, .val (.list (.st [.int .i64, .int .i64, .int .i64])) .n t0_1), (2, .val (.list (.int .i64)) .n t2_3), (9, .val (.list (.list (.bool))) (.l (.l .n)) r_9), (10, .val (.bool) .n r_10.1), (12, .val (.box (.arr 6 (.int .i64))) (.b .n) t12_14), (13, .val (.bool) .n t13_15), (14, .val (.int .i64) .n t57_16), (15, .val (.int .i64) .n (0 : Int)), (56, .val (.int .i64) .n t56_13), (57, .val (.int .i64) .n t57_16)]) (by subst hA; rfl) ?_
            clear hM hA M A
            refine tr_rg hP tabOk hsp fun A hA M hM => ?_
            cbv
            refine hM _ ?_
            refine tr_keep [0, 2, 9, 10, 12, 13, 14, 15, 56, 57, 63] (σ' := mkSl 111 0 [(0, .val (.list (.st [.int .i64, .int .i64, .int .i64])) .n t0_1), (2, .val (.list (.int .i64)) .n t2_3), (9, .val (.list (.list (.bool))) (.l (.l .n)) r_9), (10, .val (.bool) .n r_10.1), (12, .val (.box (.arr 6 (.int .i64))) (.b .n) t12_14), (13, .val (.bool) .n t13_15), (14, .val (.int .i64) .n t57_16), (15, .val (.int .i64) .n (0 : Int)), (56, .val (.int .i64) .n t56_13), (57, .val (.int .i64) .n t57_16), (63, .val (.bool) .n (decide (t57_16 < (t2_3.length : Int))))]) (by subst hA; rfl) ?_
            clear hM hA M A
            refine tr_join (z := r1) (fun y : Int => PredMust_J2 t0_1 r_9 t12_14 t13_15 t57_16 y) (fun y : Int => mkSl 111 0 [(0, .val (.list (.st [.int .i64, .int .i64, .int .i64])) .n t0_1), (2, .val (.list (.int .i64)) .n t2_3), (9, .val (.list (.list (.bool))) (.l (.l .n)) r_9), (10, .val (.bool) .n r_10.1), (12, .val (.box (.arr 6 (.int .i64))) (.b .n) t12_14), (13, .val (.bool) .n t13_15), (15, .val (.int .i64) .n y), (56, .val (.int .i64) .n t56_13), (57, .val (.int .i64) .n t57_16)]) [0, 2, 9, 10, 12, 13, 15, 56, 57] (fun _ h => h) (fun y H => ?_) (fun hJ2 => ?_)
            · obtain ⟨t15_20, rfl⟩ : ∃ v, v = y := ⟨y, rfl⟩
              replace H : PredMust_J2 t0_1 r_9 t12_14 t13_15 t57_16 t15_20 = some r1 := H
              unfold PredMust_J2 at H
              refine tr_seq ?_
              refine tr_seq ?_
              refine tr_rg hP tabOk hsp fun A hA M hM => ?_
              cbv
              refine hM _ ?_
              refine tr_block ?_
              refine tr_keep [0, 2, 9, 10, 12, 13, 15, 56, 57, 69] (σ' := mkSl 111 0 [(0, .val (.list (.st [.int .i64, .int .i64, .int .i64])) .n t0_1), (2, .val (.list (.int .i64)) .n t2_3), (9, .val (.list (.list (.bool))) (.l (.l .n)) r_9), (10, .val (.bool) .n r_10.1), (12, .val (.box (.arr 6 (.int .i64))) (.b .n) t12_14), (13, .val (.bool) .n t13_15), (15, .val (.int .i64) .n t15_20), (56, .val (.int .i64) .n t56_13), (57, .val (.int .i64) .n t57_16), (69, .val (.int .i64) .n (0 : Int))]) (by subst hA; rfl) ?_
              clear hM hA M A
              obtain ⟨q_24, hq, H⟩ := bind_out H
              refine tr_loopB 2 (fun x : Int × Int => PredMust_L3 t0_1 t12_14 x.1 x.2) (fun x : Int × Int => mkSl 111 0 [(0, .val (.list (.st [.int .i64, .int .i64, .int .i64])) .n t0_1), (2, .val (.list (.int .i64)) .n t2_3), (9, .val (.list (.list (.bool))) (.l (.l .n)) r_9), (10, .val (.bool) .n r_10.1), (12, .val (.box (.arr 6 (.int .i64))) (.b .n) t12_14), (13, .val (.bool) .n t13_15), (15, .val (.int .i64) .n x.1), (56, .val (.int .i64) .n t56_13), (57, .val (.int .i64) .n t57_16), (69, .val (.int .i64) .n x.2)]) [0, 2, 9, 10, 12, 13, 15, 56, 57, 69] (fun q_24 : List Int => mkSl 111 0 [(0, .val (.list (.st [.int .i64, .int .i64, .int .i64])) .n t0_1), (2, .val (.list (.int .i64)) .n t2_3), (9, .val (.list (.list (.bool))) (.l (.l .n)) r_9), (10, .val (.bool) .n r_10.1), (12, .val (.box (.arr 6 (.int .i64))) (.b .n) q_24), (13, .val (.bool) .n t13_15), (56, .val (.int .i64) .n t56_13), (57, .val (.int .i64) .n t57_16)]) [0, 2, 9, 10, 12, 13, 56, 57] hq rfl (fun σ' h => ?_) (fun x r3 H => ?_)
              · refine tr_keep [0, 2, 9, 10, 12, 13, 56, 57] h ?_
                refine tr_rg hP tabOk hsp fun A hA M hM => ?_
                cbv
                obtain ⟨r_28, er1, H⟩ := letO_out H
                obtain ⟨ob1, H⟩ := ck_out H
                have eq1 := er1.trans hd31
                refine ⟨by subst hA; subst eq1; exact fun h0 => hi31 (ob1 h0), hM _ ?_⟩
                refine tr_keepL [0, 2, 9, 10, 12, 13, 56, 57] (fun t13_29 : Bool => mkSl 111 0 [(0, .val (.list (.st [.int .i64, .int .i64, .int .i64])) .n t0_1), (2, .val (.list (.int .i64)) .n t2_3), (9, .val (.list (.list (.bool))) (.l (.l .n)) r_9), (10, .val (.bool) .n r_10.1), (12, .val (.box (.arr 6 (.int .i64))) (.b .n) q_24), (13, .val (.bool) .n t13_29), (56, .val (.int .i64) .n t56_13), (57, .val (.int .i64) .n t57_16)]) H (by subst hA; subst eq1; rfl) (fun t13_29 H => ?_)
                clear ob1 eq1 er1 hM hA M A
                refine tr_rg hP tabOk hsp fun A hA M hM => ?_
                cbv
                refine hM _ ?_
                exact Exists.intro _ (And.intro (Option.some.inj H).symm (by subst hA; rfl))
              · obtain ⟨t15_21, t69_22⟩ := x
                replace H : PredMust_L3 t0_1 t12_14 t15_21 t69_22 = some r3 := H
                unfold PredMust_L3 at H
                refine tr_seq ?_
                refine tr_rg hP tabOk hsp fun A hA M hM => ?_
                cbv
                refine hM _ ?_
                refine tr_seq ?_
                refine tr_keep [0, 2, 9, 10, 12, 13, 15, 56, 57, 69, 70] (σ' := mkSl 111 0 [(0, .val (.list (.st [.int .i64, .int .i64, .int .i64])) .n t0_1), (2, .val (.list (.int .i64)) .n t2_3), (9, .val (.list (.list (.bool))) (.l (.l .n)) r_9), (10, .val (.bool) .n r_10.1), (12, .val (.box (.arr 6 (.int .i64))) (.b .n) t12_14), (13, .val (.bool) .n t13_15), (15, .val (.int .i64) .n t15_21), (56, .val (.int .i64) .n t56_13), (57, .val (.int .i64) .n t57_16), (69, .val (.int .i64) .n t69_22), (70, .val (.bool) .n (decide (t69_22 < (6 : Int))))]) (by subst hA; rfl) ?_
                clear hM hA M A
                refine tr_cond rfl (fun hc => ?_) (fun hc => ?_)
                · replace H := if_t H hc
                  refine tr_keep [0, 2, 9, 10, 12, 13, 15, 56, 57, 69] (σ' := mkSl 111 0 [(0, .val (.list (.st [.int .i64, .int .i64, .int .i64])) .n t0_1), (2, .val (.list (.int .i64)) .n t2_3), (9, .val (.list (.list (.bool))) (.l (.l .n)) r_9), (10, .val (.bool) .n r_10.1), (12, .val (.box (.arr 6 (.int .i64))) (.b .n) t12_14), (13, .val (.bool) .n t13_15), (15, .val (.int .i64) .n t15_21), (56, .val (.int .i64) .n t56_13), (57, .val (.int .i64) .n t57_16), (69, .val (.int .i64) .n t69_22)]) rfl ?_
                  refine tr_skip ?_
                  refine tr_seq ?_
                  refine tr_block ?_
                  refine tr_seq ?_
                  refine tr_rg hP tabOk hsp fun A hA M hM => ?_
                  cbv
                  refine hM _ ?_
                  refine tr_seq ?_
                  refine tr_keep [0, 2, 9, 10, 12, 13, 15, 16, 56, 57, 69] (σ' := mkSl 111 0 [(0, .val (.list (.st [.int .i64, .int .i64, .int .i64])) .n t0_1), (2, .val (.list (.int .i64)) .n t2_3), (9, .val (.list (.list (.bool))) (.l (.l .n)) r_9), (10, .val (.bool) .n r_10.1), (12, .val (.box (.arr 6 (.int .i64))) (.b .n) t12_14), (13, .val (.bool) .n t13_15), (15, .val (.int .i64) .n t15_21), (16, .val (.box (.arr 6 (.int .i64))) (.b .n) t12_14), (56, .val (.int .i64) .n t56_13), (57, .val (.int .i64) .n t57_16), (69, .val (.int .i64) .n t69_22)]) (by subst hA; rfl) ?_
                  clear hM hA M A
                  refine tr_rg hP tabOk hsp fun A hA M hM => ?_
                  cbv
                  obtain ⟨ob1, H⟩ := ck_out H
                  obtain ⟨ob2, H⟩ := ck_out H
                  refine ⟨by subst hA; exact ob1, by subst hA; exact ob2, hM _ ?_⟩
                  refine tr_seq ?_
                  refine tr_seq ?_
                  refine tr_keepL [0, 2, 9, 10, 12, 13, 15, 16, 56, 57, 69] (fun t16_25 : List Int => mkSl 111 0 [(0, .val (.list (.st [.int .i64, .int .i64, .int .i64])) .n t0_1), (2, .val (.list (.int .i64)) .n t2_3), (9, .val (.list (.list (.bool))) (.l (.l .n)) r_9), (10, .val (.bool) .n r_10.1), (12, .val (.box (.arr 6 (.int .i64))) (.b .n) t12_14), (13, .val (.bool) .n t13_15), (15, .val (.int .i64) .n t15_21), (16, .val (.box (.arr 6 (.int .i64))) (.b .n) t16_25), (56, .val (.int .i64) .n t56_13), (57, .val (.int .i64) .n t57_16), (69, .val (.int .i64) .n t69_22)]) H (by subst hA; rfl) (fun t16_25 H => ?_)
                  clear ob2 ob1 hM hA M A
                  refine tr_rg hP tabOk hsp fun A hA M hM => ?_
                  cbv
                  obtain ⟨r_26, hr1, H⟩ := bind_out H
                  obtain ⟨pq1, eq1⟩ := hc16 hr1
                  refine ⟨by subst hA; subst eq1; exact pq1, hM _ ?_⟩
                  refine tr_seq ?_
                  refine tr_keep [0, 2, 9, 10, 12, 13, 15, 16, 17, 18, 56, 57, 69] (σ' := mkSl 111 0 [(0, .val (.list (.st [.int .i64, .int .i64, .int .i64])) .n t0_1), (2, .val (.list (.int .i64)) .n t2_3), (9, .val (.list (.list (.bool))) (.l (.l .n)) r_9), (10, .val (.bool) .n r_10.1), (12, .val (.box (.arr 6 (.int .i64))) (.b .n) t12_14), (13, .val (.bool) .n t13_15), (15, .val (.int .i64) .n t15_21), (16, .val (.box (.arr 6 (.int .i64))) (.b .n) t16_25), (17, .val (.bool) .n r_26.1), (18, .val (.int .i64) .n r_26.2), (56, .val (.int .i64) .n t56_13), (57, .val (.int .i64) .n t57_16), (69, .val (.int .i64) .n t69_22)]) (by subst hA; subst eq1; rfl) ?_
                  clear pq1 eq1 hr1 hM hA M A
                  refine tr_rg hP tabOk hsp fun A hA M hM => ?_
                  cbv
                  refine hM _ ?_
                  refine tr_keep [0, 2, 9, 10, 12, 13, 15, 16, 56, 57, 69, 87] (σ' := mkSl 111 0 [(0, .val (.list (.st [.int .i64, .int .i64, .int .i64])) .n t0_1), (2, .val (.list (.int .i64)) .n t2_3), (9, .val (.list (.list (.bool))) (.l (.l .n)) r_9), (10, .val (.bool) .n r_10.1), (12, .val (.box (.arr 6 (.int .i64))) (.b .n) t12_14), (13, .val (.bool) .n t13_15), (15, .val (.int .i64) .n t15_21), (16, .val (.box (.arr 6 (.int .i64))) (.b .n) t16_25), (56, .val (.int .i64) .n t56_13), (57, .val (.int .i64) .n t57_16), (69, .val (.int .i64) .n t69_22), (87, .val (.bool) .n ((r_26.2 == (0 : Int)) && r_26.1))]) (by subst hA; rfl) ?_
                  clear hM hA M A
                  refine tr_cond rfl (fun hc => ?_) (fun hc => ?_)
                  · replace H := if_t H hc
                    refine tr_keep [0, 2, 9, 10, 12, 13, 15, 16, 56, 57, 69] (σ' := mkSl 111 0 [(0, .val (.list (.st [.int .i64, .int .i64, .int .i64])) .n t0_1), (2, .val (.list (.int .i64)) .n t2_3), (9, .val (.list (.list (.bool))) (.l (.l .n)) r_9), (10, .val (.bool) .n r_10.1), (12, .val (.box (.arr 6 (.int .i64))) (.b .n) t12_14), (13, .val (.bool) .n t13_15), (15, .val (.int .i64) .n t15_21), (16, .val (.box (.arr 6 (.int .i64))) (.b .n) t16_25), (56, .val (.int .i64) .n t56_13), (57, .val (.int .i64) .n t57_16), (69, .val (.int .i64) .n t69_22)]) rfl ?_
                    refine tr_seq ?_
                    refine tr_rg hP tabOk hsp fun A hA M hM => ?_
                    cbv
                    refine hM _ ?_
                    refine tr_exit ?_
                    exact And.intro rfl (Exists.intro _ (And.intro (Option.some.inj H).symm (by subst hA; rfl)))
                  · replace H := if_f H hc
                    refine tr_keep [0, 2, 9, 10, 12, 13, 15, 16, 56, 57, 69] (σ' := mkSl 111 0 [(0, .val (.list (.st [.int .i64, .int .i64, .int .i64])) .n t0_1), (2, .val (.list (.int .i64)) .n t2_3), (9, .val (.list (.list (.bool))) (.l (.l .n)) r_9), (10, .val (.bool) .n r_10.1), (12, .val (.box (.arr 6 (.int .i64))) (.b .n) t12_14), (13, .val (.bool) .n t13_15), (15, .val (.int .i64) .n t15_21), (16, .val (.box (.arr 6 (.int .i64))) (.b .n) t16_25), (56, .val (.int .i64) .n t56_13), (57, .val (.int .i64) .n t57_16), (69, .val (.int .i64) .n t69_22)]) rfl ?_
                    refine tr_skip ?_
                    refine tr_rg hP tabOk hsp fun A hA M hM => ?_
                    cbv
                    obtain ⟨ob1, H⟩ := ck_out H
                    refine ⟨by subst hA; exact ob1, hM _ ?_⟩
                    refine tr_keepL [0, 2, 9, 10, 12, 13, 15, 56, 57, 69] (fun t15_27 : Int => mkSl 111 0 [(0, .val (.list (.st [.int .i64, .int .i64, .int .i64])) .n t0_1), (2, .val (.list (.int .i64)) .n t2_3), (9, .val (.list (.list (.bool))) (.l (.l .n)) r_9), (10, .val (.bool) .n r_10.1), (12, .val (.box (.arr 6 (.int .i64))) (.b .n) t12_14), (13, .val (.bool) .n t13_15), (15, .val (.int .i64) .n t15_27), (56, .val (.int .i64) .n t56_13), (57, .val (.int .i64) .n t57_16), (69, .val (.int .i64) .n t69_22)]) H (by subst hA; rfl) (fun t15_27 H => ?_)
                    clear ob1 hM hA M A
                    refine tr_rg hP tabOk hsp fun A hA M hM => ?_
                    cbv
                    refine hM _ ?_
                    exact Exists.intro _ (And.intro (Option.some.inj H).symm (by subst hA; rfl))
                · replace H := if_f H hc
                  refine tr_keep [0, 2, 9, 10, 12, 13, 15, 56, 57, 69] (σ' := mkSl 111 0 [(0, .val (.list (.st [.int .i64, .int .i64, .int .i64])) .n t0_1), (2, .val (.list (.int .i64)) .n t2_3), (9, .val (.list (.list (.bool))) (.l (.l .n)) r_9), (10, .val (.bool) .n r_10.1), (12, .val (.box (.arr 6 (.int .i64))) (.b .n) t12_14), (13, .val (.bool) .n t13_15), (15, .val (.int .i64) .n t15_21), (56, .val (.int .i64) .n t56_13), (57, .val (.int .i64) .n t57_16), (69, .val (.int .i64) .n t69_22)]) rfl ?_
                  refine tr_exit ?_
                  exact And.intro rfl (Exists.intro _ (And.intro (Option.some.inj H).symm (by rfl)))
            · refine tr_cond rfl (fun hc => ?_) (fun hc => ?_)
              · replace H := if_t H hc
                refine tr_keep [0, 2, 9, 10, 12, 13, 14, 15, 56, 57] (σ' := mkSl 111 0 [(0, .val (.list (.st [.int .i64, .int .i64, .int .i64])) .n t0_1), (2, .val (.list (.int .i64)) .n t2_3), (9, .val (.list (.list (.bool))) (.l (.l .n)) r_9), (10, .val (.bool) .n r_10.1), (12, .val (.box (.arr 6 (.int .i64))) (.b .n) t12_14), (13, .val (.bool) .n t13_15), (14, .val (.int .i64) .n t57_16), (15, .val (.int .i64) .n (0 : Int)), (56, .val (.int .i64) .n t56_13), (57, .val (.int .i64) .n t57_16)]) rfl ?_
                refine tr_rg hP tabOk hsp fun A hA M hM => ?_
                cbv
                obtain ⟨ob1, H⟩ := ck_out H
                obtain ⟨r_30, hr2, H⟩ := bind_out H
                obtain ⟨pq2, eq2⟩ := hc33 hr2
                refine ⟨by subst hA; exact ob1, by subst hA; subst eq2; exact pq2, hM _ ?_⟩
                exact hJ2 r_30 _ H (by subst hA; subst eq2; rfl)
              · replace H := if_f H hc
                refine tr_keep [0, 2, 9, 10, 12, 13, 14, 15, 56, 57] (σ' := mkSl 111 0 [(0, .val (.list (.st [.int .i64, .int .i64, .int .i64])) .n t0_1), (2, .val (.list (.int .i64)) .n t2_3), (9, .val (.list (.list (.bool))) (.l (.l .n)) r_9), (10, .val (.bool) .n r_10.1), (12, .val (.box (.arr 6 (.int .i64))) (.b .n) t12_14), (13, .val (.bool) .n t13_15), (14, .val (.int .i64) .n t57_16), (15, .val (.int .i64) .n (0 : Int)), (56, .val (.int .i64) .n t56_13), (57, .val (.int .i64) .n t57_16)]) rfl ?_
                refine tr_skip ?_
                exact hJ2 (0 : Int) _ H (by rfl)
          · replace H := if_f H hc
            refine tr_keep [0, 2, 9, 10, 12, 13, 56, 57] (σ' := mkSl 111 0 [(0, .val (.list (.st [.int .i64, .int .i64, .int .i64])) .n t0_1), (2, .val (.list (.int .i64)) .n t2_3), (9, .val (.list (.list (.bool))) (.l (.l .n)) r_9), (10, .val (.bool) .n r_10.1), (12, .val (.box (.arr 6 (.int .i64))) (.b .n) t12_14), (13, .val (.bool) .n t13_15), (56, .val (.int .i64) .n t56_13), (57, .val (.int .i64) .n t57_16)]) rfl ?_
            refine tr_exit ?_
            exact And.intro rfl (Exists.intro _ (And.intro (Option.some.inj H).symm (by rfl)))
theorem PredMust_sp : ∃ (pg : PT.denL [.list (.st [.int .i64, .int .i64, .int .i64]), .arr 6 (.int .u64), .list (.int .i64)] → Prop) (fg : PT.denL [.list (.st [.int .i64, .int .i64, .int .i64]), .arr 6 (.int .u64), .list (.int .i64)] → PT.denL [.bool]), SpecRuns Try.prog 9 ⟨[.list (.st [.int .i64, .int .i64, .int .i64]), .arr 6 (.int .u64), .list (.int .i64)], [.v, .v, .v], [.bool], [.n], pg, fg⟩ ∧ (∀ {a1 : List ((Int × Int × Int × Unit))} {a2 : List Int} {a3 : List Int} {y : Bool}, PredMust a1 a2 a3 = some y → pg (a1, a2, a3, ()) ∧ y = (fg (a1, a2, a3, ())).1) ∧ (∀ {a1 : List ((Int × Int × Int × Unit))} {a2 : List Int} {a3 : List Int}, (PredMust a1 a2 a3).isSome = true → pg (a1, a2, a3, ())) ∧ ∀ {a1 : List ((Int × Int × Int × Unit))} {a2 : List Int} {a3 : List Int}, (PredMust a1 a2 a3).getD false = (fg (a1, a2, a3, ())).1 := by
  obtain ⟨pg, fg, h, hc, hi, hd⟩ := spec_hide PredMust_runs
  refine ⟨pg, fg, h, ?_, ?_, ?_⟩
  · intro a1 a2 a3 y e
    obtain ⟨h1, h2⟩ := hc (a1, a2, a3, ()) (y, ()) (congrArg (Option.map fun r => (r, ())) e)
    exact ⟨h1, by first | (rw [h2]; done) | (rw [h2]; rfl)⟩
  · intro a1 a2 a3
    intro e
    exact hi (a1, a2, a3, ()) (map_isSome e)
  · intro a1 a2 a3
    rw [hd (a1, a2, a3, ())]
    cases PredMust a1 a2 a3 <;> rfl
end Go.Proofs.Ytdahfpfkjljojaa.Ct
