/- Functions of the program as functions that may fail, and that the code computes them (printed). Each theorem bears its conditions itself. -/
import Derived.Test.YtdahfpfkjljojaaCtDefs
import Derived.Test.YtdahfpfkjljojaaCtTab
import Derived.Test.YtdahfpfkjljojaaCtQanyTruth
import Derived.Test.YtdahfpfkjljojaaCtQpredQFirst
import Derived.Test.YtdahfpfkjljojaaCtQsent
import Derived.Test.YtdahfpfkjljojaaCtQlate
import Derived.Test.YtdahfpfkjljojaaCtQstampQCheck
import Derived.Test.YtdahfpfkjljojaaCtQvectQWithin
import Derived.Test.YtdahfpfkjljojaaCtQpredQMust
open Go Go.Proofs.Ytdahfpfkjljojaa.Sy Go.Proofs
set_option maxHeartbeats 4000000
set_option maxRecDepth 100000
set_option cbv.maxSteps 10000000
set_option linter.unusedVariables false
set_option linter.unusedSimpArgs false
namespace Go.Proofs.Ytdahfpfkjljojaa.Ct
theorem PredMore_runs : SpecRuns Try.prog 11 (oSpec [.list (.st [.int .i64, .int .i64, .int .i64]), .arr 6 (.int .u64), .arr 6 (.int .u64)] [.v, .v, .v] [.bool] [.n] fun x => (PredMore x.1 x.2.1 x.2.2.1).map fun r => (r, ())) := by
  obtain ⟨pg30, fg30, hs30, hc30, hi30, hd30⟩ := anyTruth_sp
  obtain ⟨pg28, fg28, hs28, hc28, hi28, hd28⟩ := pred_First_sp
  obtain ⟨pg13, fg13, hs13, hc13, hi13, hd13⟩ := sent_sp
  obtain ⟨pg29, fg29, hs29, hc29, hi29, hd29⟩ := late_sp
  obtain ⟨pg14, fg14, hs14, hc14, hi14, hd14⟩ := stamp_Check_sp
  obtain ⟨pg18, fg18, hs18, hc18, hi18, hd18⟩ := vect_Within_sp
  obtain ⟨pg32, fg32, hs32, hc32, hi32, hd32⟩ := pred_Must_sp
  have hsp : SpecsOk Try.prog [(30, ⟨[.list (.st [.int .i64, .int .i64, .int .i64]), .arr 6 (.int .u64)], [.v, .v], [.list (.list (.bool))], [.l (.l .n)], pg30, fg30⟩), (28, ⟨[.list (.st [.int .i64, .int .i64, .int .i64]), .list (.list (.bool))], [.v, .v], [.arr 6 (.int .i64), .int .i64], [.n, .n], pg28, fg28⟩), (13, ⟨[], [], [.list (.st [.int .i64, .int .i64, .int .i64])], [.l .n], pg13, fg13⟩), (29, ⟨[.list (.st [.int .i64, .int .i64, .int .i64])], [.v], [.list (.list (.bool))], [.l (.l .n)], pg29, fg29⟩), (14, ⟨[.list (.st [.int .i64, .int .i64, .int .i64])], [.v], [.int .i64], [.n], pg14, fg14⟩), (18, ⟨[.arr 6 (.int .i64), .arr 6 (.int .i64)], [.v, .v], [.bool], [.n], pg18, fg18⟩), (32, ⟨[.list (.st [.int .i64, .int .i64, .int .i64]), .list (.list (.bool))], [.v, .v], [.bool, .int .i64], [.n, .n], pg32, fg32⟩)] := (specsOk_cons Try.func30 (by kernel_rfl) (by kernel_rfl) hs30 (specsOk_cons Try.func28 (by kernel_rfl) (by kernel_rfl) hs28 (specsOk_cons Try.func13 (by kernel_rfl) (by kernel_rfl) hs13 (specsOk_cons Try.func29 (by kernel_rfl) (by kernel_rfl) hs29 (specsOk_cons Try.func14 (by kernel_rfl) (by kernel_rfl) hs14 (specsOk_cons Try.func18 (by kernel_rfl) (by kernel_rfl) hs18 (specsOk_cons Try.func32 (by kernel_rfl) (by kernel_rfl) hs32 specsOk_nil)))))))
  refine runs_of_o tabOk Try.func11 rfl (Nat.le_of_ble_eq_true rfl) rfl ?_
  rintro E ⟨(t0_1 : List ((Int × Int × Int × Unit))), (t1_2 : List Int), (t2_3 : List Int), ⟨⟩⟩ y hP H hw
  obtain ⟨z, H1, rfl⟩ := map_out H
  replace H : PredMore t0_1 t1_2 t2_3 = some z := H1
  clear hw H1
  unfold PredMore at H
  refine tr_keep [0, 1, 2] (σ' := mkSl 118 0 [(0, .val (.list (.st [.int .i64, .int .i64, .int .i64])) .n t0_1), (1, .val (.arr 6 (.int .u64)) .n t1_2), (2, .val (.arr 6 (.int .u64)) .n t2_3)]) rfl ?_
  refine tr_seq ?_
  refine tr_rg hP tabOk hsp fun A hA M hM => ?_
  cbv
  refine hM _ ?_
  refine tr_seq ?_
  refine tr_seq ?_
  refine tr_keep [0, 4, 5] (σ' := mkSl 118 0 [(0, .val (.list (.st [.int .i64, .int .i64, .int .i64])) .n t0_1), (4, .val (.box (.arr 6 (.int .u64))) (.b .n) t1_2), (5, .val (.box (.arr 6 (.int .u64))) (.b .n) t2_3)]) (by subst hA; rfl) ?_
  clear hM hA M A
  refine tr_rg hP tabOk hsp fun A hA M hM => ?_
  cbv
  obtain ⟨r_4, hr1, H⟩ := bind_out H
  obtain ⟨pq1, eq1⟩ := hc30 hr1
  obtain ⟨r_5, hr2, H⟩ := bind_out H
  obtain ⟨pq2, eq2⟩ := hc28 hr2
  refine ⟨by subst hA; subst eq1; exact pq1, by subst hA; subst eq1; subst eq2; exact pq2, hM _ ?_⟩
  refine tr_seq ?_
  refine tr_keep [0, 4, 5, 7, 8] (σ' := mkSl 118 0 [(0, .val (.list (.st [.int .i64, .int .i64, .int .i64])) .n t0_1), (4, .val (.box (.arr 6 (.int .u64))) (.b .n) t1_2), (5, .val (.box (.arr 6 (.int .u64))) (.b .n) t2_3), (7, .val (.box (.arr 6 (.int .i64))) (.b .n) r_5.1), (8, .val (.int .i64) .n r_5.2)]) (by subst hA; subst eq1; subst eq2; rfl) ?_
  clear pq2 eq2 hr2 pq1 eq1 hr1 hM hA M A
  refine tr_rg hP tabOk hsp fun A hA M hM => ?_
  cbv
  refine hM _ ?_
  refine tr_keep [0, 4, 5, 33] (σ' := mkSl 118 0 [(0, .val (.list (.st [.int .i64, .int .i64, .int .i64])) .n t0_1), (4, .val (.box (.arr 6 (.int .u64))) (.b .n) t1_2), (5, .val (.box (.arr 6 (.int .u64))) (.b .n) t2_3), (33, .val (.bool) .n ((r_5.2 != (0 : Int)) || (!(eqA6I r_5.1 [(0 : Int), (0 : Int), (0 : Int), (0 : Int), (0 : Int), (0 : Int)]))))]) (by subst hA; rfl) ?_
  clear hM hA M A
  refine tr_cond rfl (fun hc => ?_) (fun hc => ?_)
  · replace H := if_t H hc
    refine tr_keep [0, 4, 5] (σ' := mkSl 118 0 [(0, .val (.list (.st [.int .i64, .int .i64, .int .i64])) .n t0_1), (4, .val (.box (.arr 6 (.int .u64))) (.b .n) t1_2), (5, .val (.box (.arr 6 (.int .u64))) (.b .n) t2_3)]) rfl ?_
    refine tr_seq ?_
    refine tr_rg hP tabOk hsp fun A hA M hM => ?_
    cbv
    refine hM _ ?_
    refine tr_ret ?_
    have hr := Option.some.inj H
    subst hr
    subst hA
    exact rfl
  · replace H := if_f H hc
    refine tr_keep [0, 4, 5] (σ' := mkSl 118 0 [(0, .val (.list (.st [.int .i64, .int .i64, .int .i64])) .n t0_1), (4, .val (.box (.arr 6 (.int .u64))) (.b .n) t1_2), (5, .val (.box (.arr 6 (.int .u64))) (.b .n) t2_3)]) rfl ?_
    refine tr_skip ?_
    refine tr_seq ?_
    refine tr_seq ?_
    refine tr_rg hP tabOk hsp fun A hA M hM => ?_
    cbv
    obtain ⟨r_6, hr1, H⟩ := bind_out H
    obtain ⟨pq1, eq1⟩ := hc13 hr1
    obtain ⟨r_7, hr2, H⟩ := bind_out H
    obtain ⟨pq2, eq2⟩ := hc13 hr2
    obtain ⟨r_8, hr3, H⟩ := bind_out H
    obtain ⟨pq3, eq3⟩ := hc29 hr3
    obtain ⟨r_9, hr4, H⟩ := bind_out H
    obtain ⟨pq4, eq4⟩ := hc28 hr4
    refine ⟨by subst hA; subst eq1; exact pq1, by subst hA; subst eq1; subst eq2; exact pq2, by subst hA; subst eq1; subst eq2; subst eq3; exact pq3, by subst hA; subst eq1; subst eq2; subst eq3; subst eq4; exact pq4, hM _ ?_⟩
    refine tr_seq ?_
    refine tr_keep [0, 4, 5, 9, 10] (σ' := mkSl 118 0 [(0, .val (.list (.st [.int .i64, .int .i64, .int .i64])) .n t0_1), (4, .val (.box (.arr 6 (.int .u64))) (.b .n) t1_2), (5, .val (.box (.arr 6 (.int .u64))) (.b .n) t2_3), (9, .val (.box (.arr 6 (.int .i64))) (.b .n) r_9.1), (10, .val (.int .i64) .n r_9.2)]) (by subst hA; subst eq1; subst eq2; subst eq3; subst eq4; rfl) ?_
    clear pq4 eq4 hr4 pq3 eq3 hr3 pq2 eq2 hr2 pq1 eq1 hr1 hM hA M A
    refine tr_rg hP tabOk hsp fun A hA M hM => ?_
    cbv
    refine hM _ ?_
    refine tr_keep [0, 4, 5, 47] (σ' := mkSl 118 0 [(0, .val (.list (.st [.int .i64, .int .i64, .int .i64])) .n t0_1), (4, .val (.box (.arr 6 (.int .u64))) (.b .n) t1_2), (5, .val (.box (.arr 6 (.int .u64))) (.b .n) t2_3), (47, .val (.bool) .n ((r_9.2 != (0 : Int)) || (!(eqA6I r_9.1 [(1 : Int), (0 : Int), (0 : Int), (0 : Int), (0 : Int), (0 : Int)]))))]) (by subst hA; rfl) ?_
    clear hM hA M A
    refine tr_cond rfl (fun hc => ?_) (fun hc => ?_)
    · replace H := if_t H hc
      refine tr_keep [0, 4, 5] (σ' := mkSl 118 0 [(0, .val (.list (.st [.int .i64, .int .i64, .int .i64])) .n t0_1), (4, .val (.box (.arr 6 (.int .u64))) (.b .n) t1_2), (5, .val (.box (.arr 6 (.int .u64))) (.b .n) t2_3)]) rfl ?_
      refine tr_seq ?_
      refine tr_rg hP tabOk hsp fun A hA M hM => ?_
      cbv
      refine hM _ ?_
      refine tr_ret ?_
      have hr := Option.some.inj H
      subst hr
      subst hA
      exact rfl
    · replace H := if_f H hc
      refine tr_keep [0, 4, 5] (σ' := mkSl 118 0 [(0, .val (.list (.st [.int .i64, .int .i64, .int .i64])) .n t0_1), (4, .val (.box (.arr 6 (.int .u64))) (.b .n) t1_2), (5, .val (.box (.arr 6 (.int .u64))) (.b .n) t2_3)]) rfl ?_
      refine tr_skip ?_
      refine tr_seq ?_
      refine tr_seq ?_
      refine tr_rg hP tabOk hsp fun A hA M hM => ?_
      cbv
      obtain ⟨r_10, hr1, H⟩ := bind_out H
      obtain ⟨pq1, eq1⟩ := hc14 hr1
      refine ⟨by subst hA; subst eq1; exact pq1, hM _ ?_⟩
      refine tr_keep [0, 4, 5, 50] (σ' := mkSl 118 0 [(0, .val (.list (.st [.int .i64, .int .i64, .int .i64])) .n t0_1), (4, .val (.box (.arr 6 (.int .u64))) (.b .n) t1_2), (5, .val (.box (.arr 6 (.int .u64))) (.b .n) t2_3), (50, .val (.bool) .n (r_10 != (0 : Int)))]) (by subst hA; subst eq1; rfl) ?_
      clear pq1 eq1 hr1 hM hA M A
      refine tr_cond rfl (fun hc => ?_) (fun hc => ?_)
      · replace H := if_t H hc
        refine tr_keep [0, 4, 5] (σ' := mkSl 118 0 [(0, .val (.list (.st [.int .i64, .int .i64, .int .i64])) .n t0_1), (4, .val (.box (.arr 6 (.int .u64))) (.b .n) t1_2), (5, .val (.box (.arr 6 (.int .u64))) (.b .n) t2_3)]) rfl ?_
        refine tr_seq ?_
        refine tr_rg hP tabOk hsp fun A hA M hM => ?_
        cbv
        refine hM _ ?_
        refine tr_ret ?_
        have hr := Option.some.inj H
        subst hr
        subst hA
        exact rfl
      · replace H := if_f H hc
        refine tr_keep [0, 4, 5] (σ' := mkSl 118 0 [(0, .val (.list (.st [.int .i64, .int .i64, .int .i64])) .n t0_1), (4, .val (.box (.arr 6 (.int .u64))) (.b .n) t1_2), (5, .val (.box (.arr 6 (.int .u64))) (.b .n) t2_3)]) rfl ?_
        refine tr_skip ?_
        refine tr_seq ?_
        refine tr_rg hP tabOk hsp fun A hA M hM => ?_
        cbv
        refine hM _ ?_
        refine tr_seq ?_
        refine tr_seq ?_
        refine tr_keep [0, 4, 5, 11] (σ' := mkSl 118 0 [(0, .val (.list (.st [.int .i64, .int .i64, .int .i64])) .n t0_1), (4, .val (.box (.arr 6 (.int .u64))) (.b .n) t1_2), (5, .val (.box (.arr 6 (.int .u64))) (.b .n) t2_3), (11, .val (.box (.arr 6 (.int .u64))) (.b .n) t1_2)]) (by subst hA; rfl) ?_
        clear hM hA M A
        refine tr_rg hP tabOk hsp fun A hA M hM => ?_
        cbv
        refine hM _ ?_
        refine tr_block ?_
        refine tr_keep [0, 4, 5, 11, 52] (σ' := mkSl 118 0 [(0, .val (.list (.st [.int .i64, .int .i64, .int .i64])) .n t0_1), (4, .val (.box (.arr 6 (.int .u64))) (.b .n) t1_2), (5, .val (.box (.arr 6 (.int .u64))) (.b .n) t2_3), (11, .val (.box (.arr 6 (.int .u64))) (.b .n) t1_2), (52, .val (.int .i64) .n (0 : Int))]) (by subst hA; rfl) ?_
        clear hM hA M A
        obtain ⟨q_14, hq, H⟩ := bind_out H
        refine tr_loopB 0 (fun x : List Int × Int => PredMore_L1 t2_3 x.1 x.2) (fun x : List Int × Int => mkSl 118 0 [(0, .val (.list (.st [.int .i64, .int .i64, .int .i64])) .n t0_1), (4, .val (.box (.arr 6 (.int .u64))) (.b .n) t1_2), (5, .val (.box (.arr 6 (.int .u64))) (.b .n) t2_3), (11, .val (.box (.arr 6 (.int .u64))) (.b .n) x.1), (52, .val (.int .i64) .n x.2)]) [0, 4, 5, 11, 52] (fun q_14 : List Int => mkSl 118 0 [(0, .val (.list (.st [.int .i64, .int .i64, .int .i64])) .n t0_1), (4, .val (.box (.arr 6 (.int .u64))) (.b .n) t1_2), (11, .val (.box (.arr 6 (.int .u64))) (.b .n) q_14)]) [0, 4, 11] hq rfl (fun σ' h => ?_) (fun x r1 H => ?_)
        · refine tr_keep [0, 4, 11] h ?_
          refine tr_seq ?_
          refine tr_rg hP tabOk hsp fun A hA M hM => ?_
          cbv
          obtain ⟨r_16, hr1, H⟩ := bind_out H
          obtain ⟨pq1, eq1⟩ := hc30 hr1
          obtain ⟨r_17, hr2, H⟩ := bind_out H
          obtain ⟨pq2, eq2⟩ := hc28 hr2
          refine ⟨by subst hA; subst eq1; exact pq1, by subst hA; subst eq1; subst eq2; exact pq2, hM _ ?_⟩
          refine tr_seq ?_
          refine tr_keep [0, 4, 11, 13, 14] (σ' := mkSl 118 0 [(0, .val (.list (.st [.int .i64, .int .i64, .int .i64])) .n t0_1), (4, .val (.box (.arr 6 (.int .u64))) (.b .n) t1_2), (11, .val (.box (.arr 6 (.int .u64))) (.b .n) q_14), (13, .val (.box (.arr 6 (.int .i64))) (.b .n) r_17.1), (14, .val (.int .i64) .n r_17.2)]) (by subst hA; subst eq1; subst eq2; rfl) ?_
          clear pq2 eq2 hr2 pq1 eq1 hr1 hM hA M A
          refine tr_rg hP tabOk hsp fun A hA M hM => ?_
          cbv
          obtain ⟨r_18, hr1, H⟩ := bind_out H
          obtain ⟨pq1, eq1⟩ := hc30 hr1
          obtain ⟨r_19, hr2, H⟩ := bind_out H
          obtain ⟨pq2, eq2⟩ := hc28 hr2
          refine ⟨by subst hA; subst eq1; exact pq1, by subst hA; subst eq1; subst eq2; exact pq2, hM _ ?_⟩
          refine tr_seq ?_
          refine tr_seq ?_
          refine tr_keep [0, 4, 11, 13, 14, 15, 16] (σ' := mkSl 118 0 [(0, .val (.list (.st [.int .i64, .int .i64, .int .i64])) .n t0_1), (4, .val (.box (.arr 6 (.int .u64))) (.b .n) t1_2), (11, .val (.box (.arr 6 (.int .u64))) (.b .n) q_14), (13, .val (.box (.arr 6 (.int .i64))) (.b .n) r_17.1), (14, .val (.int .i64) .n r_17.2), (15, .val (.box (.arr 6 (.int .i64))) (.b .n) r_19.1), (16, .val (.int .i64) .n r_19.2)]) (by subst hA; subst eq1; subst eq2; rfl) ?_
          clear pq2 eq2 hr2 pq1 eq1 hr1 hM hA M A
          refine tr_rg hP tabOk hsp fun A hA M hM => ?_
          cbv
          obtain ⟨r_20, er1, H⟩ := letO_out H
          obtain ⟨ob1, H⟩ := ck_out H
          have eq1 := er1.trans hd18
          refine ⟨by subst hA; subst eq1; exact fun h0 h1 => hi18 (ob1 h0 h1), hM _ ?_⟩
          refine tr_keep [0, 4, 11, 91] (σ' := mkSl 118 0 [(0, .val (.list (.st [.int .i64, .int .i64, .int .i64])) .n t0_1), (4, .val (.box (.arr 6 (.int .u64))) (.b .n) t1_2), (11, .val (.box (.arr 6 (.int .u64))) (.b .n) q_14), (91, .val (.bool) .n ((r_17.2 == (0 : Int)) && ((r_19.2 != (0 : Int)) || (!r_20))))]) (by subst hA; subst eq1; rfl) ?_
          clear ob1 eq1 er1 hM hA M A
          refine tr_cond rfl (fun hc => ?_) (fun hc => ?_)
          · replace H := if_t H hc
            refine tr_keep [0, 4, 11] (σ' := mkSl 118 0 [(0, .val (.list (.st [.int .i64, .int .i64, .int .i64])) .n t0_1), (4, .val (.box (.arr 6 (.int .u64))) (.b .n) t1_2), (11, .val (.box (.arr 6 (.int .u64))) (.b .n) q_14)]) rfl ?_
            refine tr_seq ?_
            refine tr_rg hP tabOk hsp fun A hA M hM => ?_
            cbv
            refine hM _ ?_
            refine tr_ret ?_
            have hr := Option.some.inj H
            subst hr
            subst hA
            exact rfl
          · replace H := if_f H hc
            refine tr_keep [0, 4, 11] (σ' := mkSl 118 0 [(0, .val (.list (.st [.int .i64, .int .i64, .int .i64])) .n t0_1), (4, .val (.box (.arr 6 (.int .u64))) (.b .n) t1_2), (11, .val (.box (.arr 6 (.int .u64))) (.b .n) q_14)]) rfl ?_
            refine tr_skip ?_
            refine tr_seq ?_
            refine tr_rg hP tabOk hsp fun A hA M hM => ?_
            cbv
            obtain ⟨r_21, hr1, H⟩ := bind_out H
            obtain ⟨pq1, eq1⟩ := hc30 hr1
            obtain ⟨r_22, hr2, H⟩ := bind_out H
            obtain ⟨pq2, eq2⟩ := hc32 hr2
            refine ⟨by subst hA; subst eq1; exact pq1, by subst hA; subst eq1; subst eq2; exact pq2, hM _ ?_⟩
            refine tr_seq ?_
            refine tr_keep [0, 11, 17, 18] (σ' := mkSl 118 0 [(0, .val (.list (.st [.int .i64, .int .i64, .int .i64])) .n t0_1), (11, .val (.box (.arr 6 (.int .u64))) (.b .n) q_14), (17, .val (.bool) .n r_22.1), (18, .val (.int .i64) .n r_22.2)]) (by subst hA; subst eq1; subst eq2; rfl) ?_
            clear pq2 eq2 hr2 pq1 eq1 hr1 hM hA M A
            refine tr_rg hP tabOk hsp fun A hA M hM => ?_
            cbv
            obtain ⟨r_23, hr1, H⟩ := bind_out H
            obtain ⟨pq1, eq1⟩ := hc30 hr1
            obtain ⟨r_24, hr2, H⟩ := bind_out H
            obtain ⟨pq2, eq2⟩ := hc32 hr2
            refine ⟨by subst hA; subst eq1; exact pq1, by subst hA; subst eq1; subst eq2; exact pq2, hM _ ?_⟩
            refine tr_seq ?_
            refine tr_keep [17, 18, 19, 20] (σ' := mkSl 118 0 [(17, .val (.bool) .n r_22.1), (18, .val (.int .i64) .n r_22.2), (19, .val (.bool) .n r_24.1), (20, .val (.int .i64) .n r_24.2)]) (by subst hA; subst eq1; subst eq2; rfl) ?_
            clear pq2 eq2 hr2 pq1 eq1 hr1 hM hA M A
            refine tr_rg hP tabOk hsp fun A hA M hM => ?_
            cbv
            refine hM _ ?_
            refine tr_ret ?_
            have hr := Option.some.inj H
            subst hr
            subst hA
            exact rfl
        · obtain ⟨t11_11, t52_12⟩ := x
          replace H : PredMore_L1 t2_3 t11_11 t52_12 = some r1 := H
          unfold PredMore_L1 at H
          refine tr_seq ?_
          refine tr_rg hP tabOk hsp fun A hA M hM => ?_
          cbv
          refine hM _ ?_
          refine tr_seq ?_
          refine tr_keep [0, 4, 5, 11, 52, 53] (σ' := mkSl 118 0 [(0, .val (.list (.st [.int .i64, .int .i64, .int .i64])) .n t0_1), (4, .val (.box (.arr 6 (.int .u64))) (.b .n) t1_2), (5, .val (.box (.arr 6 (.int .u64))) (.b .n) t2_3), (11, .val (.box (.arr 6 (.int .u64))) (.b .n) t11_11), (52, .val (.int .i64) .n t52_12), (53, .val (.bool) .n (decide (t52_12 < (6 : Int))))]) (by subst hA; rfl) ?_
          clear hM hA M A
          refine tr_cond rfl (fun hc => ?_) (fun hc => ?_)
          · replace H := if_t H hc
            refine tr_keep [0, 4, 5, 11, 52] (σ' := mkSl 118 0 [(0, .val (.list (.st [.int .i64, .int .i64, .int .i64])) .n t0_1), (4, .val (.box (.arr 6 (.int .u64))) (.b .n) t1_2), (5, .val (.box (.arr 6 (.int .u64))) (.b .n) t2_3), (11, .val (.box (.arr 6 (.int .u64))) (.b .n) t11_11), (52, .val (.int .i64) .n t52_12)]) rfl ?_
            refine tr_skip ?_
            refine tr_seq ?_
            refine tr_block ?_
            refine tr_seq ?_
            refine tr_rg hP tabOk hsp fun A hA M hM => ?_
            cbv
            refine hM _ ?_
            refine tr_keep [0, 4, 5, 11, 12, 52] (σ' := mkSl 118 0 [(0, .val (.list (.st [.int .i64, .int .i64, .int .i64])) .n t0_1), (4, .val (.box (.arr 6 (.int .u64))) (.b .n) t1_2), (5, .val (.box (.arr 6 (.int .u64))) (.b .n) t2_3), (11, .val (.box (.arr 6 (.int .u64))) (.b .n) t11_11), (12, .val (.int .i64) .n t52_12), (52, .val (.int .i64) .n t52_12)]) (by subst hA; rfl) ?_
            clear hM hA M A
            refine tr_rg hP tabOk hsp fun A hA M hM => ?_
            cbv
            obtain ⟨ob1, H⟩ := ck_out H
            obtain ⟨ob2, H⟩ := ck_out H
            obtain ⟨ob3, H⟩ := ck_out H
            refine ⟨by subst hA; exact ob1, by subst hA; exact ob2, by subst hA; exact ob3, hM _ ?_⟩
            refine tr_keepL [0, 4, 5, 11, 52] (fun t11_15 : List Int => mkSl 118 0 [(0, .val (.list (.st [.int .i64, .int .i64, .int .i64])) .n t0_1), (4, .val (.box (.arr 6 (.int .u64))) (.b .n) t1_2), (5, .val (.box (.arr 6 (.int .u64))) (.b .n) t2_3), (11, .val (.box (.arr 6 (.int .u64))) (.b .n) t11_15), (52, .val (.int .i64) .n t52_12)]) H (by subst hA; rfl) (fun t11_15 H => ?_)
            clear ob3 ob2 ob1 hM hA M A
            refine tr_rg hP tabOk hsp fun A hA M hM => ?_
            cbv
            refine hM _ ?_
            exact Exists.intro _ (And.intro (Option.some.inj H).symm (by subst hA; rfl))
          · replace H := if_f H hc
            refine tr_keep [0, 4, 5, 11, 52] (σ' := mkSl 118 0 [(0, .val (.list (.st [.int .i64, .int .i64, .int .i64])) .n t0_1), (4, .val (.box (.arr 6 (.int .u64))) (.b .n) t1_2), (5, .val (.box (.arr 6 (.int .u64))) (.b .n) t2_3), (11, .val (.box (.arr 6 (.int .u64))) (.b .n) t11_11), (52, .val (.int .i64) .n t52_12)]) rfl ?_
            refine tr_exit ?_
            exact And.intro rfl (Exists.intro _ (And.intro (Option.some.inj H).symm (by rfl)))
theorem PredMore_sp : ∃ (pg : PT.denL [.list (.st [.int .i64, .int .i64, .int .i64]), .arr 6 (.int .u64), .arr 6 (.int .u64)] → Prop) (fg : PT.denL [.list (.st [.int .i64, .int .i64, .int .i64]), .arr 6 (.int .u64), .arr 6 (.int .u64)] → PT.denL [.bool]), SpecRuns Try.prog 11 ⟨[.list (.st [.int .i64, .int .i64, .int .i64]), .arr 6 (.int .u64), .arr 6 (.int .u64)], [.v, .v, .v], [.bool], [.n], pg, fg⟩ ∧ (∀ {a1 : List ((Int × Int × Int × Unit))} {a2 : List Int} {a3 : List Int} {y : Bool}, PredMore a1 a2 a3 = some y → pg (a1, a2, a3, ()) ∧ y = (fg (a1, a2, a3, ())).1) ∧ (∀ {a1 : List ((Int × Int × Int × Unit))} {a2 : List Int} {a3 : List Int}, (PredMore a1 a2 a3).isSome = true → pg (a1, a2, a3, ())) ∧ ∀ {a1 : List ((Int × Int × Int × Unit))} {a2 : List Int} {a3 : List Int}, (PredMore a1 a2 a3).getD false = (fg (a1, a2, a3, ())).1 := by
  obtain ⟨pg, fg, h, hc, hi, hd⟩ := spec_hide PredMore_runs
  refine ⟨pg, fg, h, ?_, ?_, ?_⟩
  · intro a1 a2 a3 y e
    obtain ⟨h1, h2⟩ := hc (a1, a2, a3, ()) (y, ()) (congrArg (Option.map fun r => (r, ())) e)
    exact ⟨h1, by first | (rw [h2]; done) | (rw [h2]; rfl)⟩
  · intro a1 a2 a3
    intro e
    exact hi (a1, a2, a3, ()) (map_isSome e)
  · intro a1 a2 a3
    rw [hd (a1, a2, a3, ())]
    cases PredMore a1 a2 a3 <;> rfl
end Go.Proofs.Ytdahfpfkjljojaa.Ct
