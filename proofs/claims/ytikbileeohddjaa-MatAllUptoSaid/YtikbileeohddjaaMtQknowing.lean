/- Functions of the program as functions that may fail, and that the code computes them (printed). Each theorem bears its conditions itself. -/
import Derived.Test.YtikbileeohddjaaMtDefs
import Derived.Test.YtikbileeohddjaaMtTab
import Derived.Test.YtikbileeohddjaaMtQmatQNew
import Derived.Test.YtikbileeohddjaaMtQRQRest
import Derived.Test.YtikbileeohddjaaMtQmatQDid
import Derived.Test.YtikbileeohddjaaMtQmatQMeet
open Go Go.Proofs.Ytikbileeohddjaa.Sy Go.Proofs
set_option maxHeartbeats 4000000
set_option maxRecDepth 100000
set_option cbv.maxSteps 10000000
set_option linter.unusedVariables false
set_option linter.unusedSimpArgs false
namespace Go.Proofs.Ytikbileeohddjaa.Mt
theorem knowing_runs : SpecRuns Try.prog 11 (oSpec [.int .i64, .list (.st [.int .i64, .int .i64, .int .i64])] [.v, .v] [.list (.st [.int .i64, .int .i64, .arr 6 (.arr 6 (.int .i64))]), .list (.int .i64), .list (.list (.int .i64)), .bool] [.l .n, .l .n, .l (.l .n), .n] fun x => (knowing x.1 x.2.1).map fun r => (r.1, r.2.1, r.2.2.1, r.2.2.2, ())) := by
  obtain ⟨pg7, fg7, hs7, hc7, hi7, hd7⟩ := mat_New_sp
  obtain ⟨pg17, fg17, hs17, hc17, hi17, hd17⟩ := R_Rest_sp
  obtain ⟨pg8, fg8, hs8, hc8, hi8, hd8⟩ := mat_Did_sp
  obtain ⟨pg14, fg14, hs14, hc14, hi14, hd14⟩ := mat_Meet_sp
  have hsp : SpecsOk Try.prog [(7, ⟨[.int .i64, .int .i64], [.v, .v], [.st [.int .i64, .int .i64, .arr 6 (.arr 6 (.int .i64))], .int .i64], [.n, .n], pg7, fg7⟩), (17, ⟨[.int .i64, .int .i64], [.v, .v], [.int .i64], [.n], pg17, fg17⟩), (8, ⟨[.st [.int .i64, .int .i64, .arr 6 (.arr 6 (.int .i64))]], [.v], [.st [.int .i64, .int .i64, .arr 6 (.arr 6 (.int .i64))], .int .i64], [.n, .n], pg8, fg8⟩), (14, ⟨[.st [.int .i64, .int .i64, .arr 6 (.arr 6 (.int .i64))], .st [.int .i64, .int .i64, .arr 6 (.arr 6 (.int .i64))]], [.v, .v], [.st [.int .i64, .int .i64, .arr 6 (.arr 6 (.int .i64))], .int .i64], [.n, .n], pg14, fg14⟩)] := (specsOk_cons Try.func7 (by kernel_rfl) (by kernel_rfl) hs7 (specsOk_cons Try.func17 (by kernel_rfl) (by kernel_rfl) hs17 (specsOk_cons Try.func8 (by kernel_rfl) (by kernel_rfl) hs8 (specsOk_cons Try.func14 (by kernel_rfl) (by kernel_rfl) hs14 specsOk_nil))))
  refine runs_of_o tabOk Try.func11 rfl (Nat.le_of_ble_eq_true rfl) rfl ?_
  rintro E ⟨(t0_1 : Int), (t1_2 : List ((Int × Int × Int × Unit))), ⟨⟩⟩ y hP H hw
  obtain ⟨z, H1, rfl⟩ := map_out H
  replace H : knowing t0_1 t1_2 = some z := H1
  clear hw H1
  unfold knowing at H
  refine tr_keep [0, 1] (σ' := mkSl 154 0 [(0, .val (.int .i64) .n t0_1), (1, .val (.list (.st [.int .i64, .int .i64, .int .i64])) .n t1_2)]) rfl ?_
  refine tr_seq ?_
  refine tr_rg hP tabOk hsp fun A hA M hM => ?_
  cbv
  refine hM _ ?_
  refine tr_seq ?_
  refine tr_keep [0, 1, 4, 5, 6] (σ' := mkSl 154 0 [(0, .val (.int .i64) .n t0_1), (1, .val (.list (.st [.int .i64, .int .i64, .int .i64])) .n t1_2), (4, .val (.list (.st [.int .i64, .int .i64, .arr 6 (.arr 6 (.int .i64))])) (.l .n) ([] : List ((Int × Int × List (List Int) × Unit)))), (5, .val (.list (.int .i64)) (.l .n) ([] : List Int)), (6, .val (.list (.list (.int .i64))) (.l (.l .n)) ([] : List (List Int)))]) (by subst hA; rfl) ?_
  clear hM hA M A
  refine tr_rg hP tabOk hsp fun A hA M hM => ?_
  cbv
  refine hM _ ?_
  refine tr_seq ?_
  refine tr_keep [0, 1, 4, 5, 6, 8] (σ' := mkSl 154 0 [(0, .val (.int .i64) .n t0_1), (1, .val (.list (.st [.int .i64, .int .i64, .int .i64])) .n t1_2), (4, .val (.list (.st [.int .i64, .int .i64, .arr 6 (.arr 6 (.int .i64))])) (.l .n) ([] : List ((Int × Int × List (List Int) × Unit)))), (5, .val (.list (.int .i64)) (.l .n) ([] : List Int)), (6, .val (.list (.list (.int .i64))) (.l (.l .n)) ([] : List (List Int))), (8, .val (.list (.st [.int .i64, .int .i64, .arr 6 (.arr 6 (.int .i64))])) (.l .n) ([] : List ((Int × Int × List (List Int) × Unit))))]) (by subst hA; rfl) ?_
  clear hM hA M A
  refine tr_rg hP tabOk hsp fun A hA M hM => ?_
  cbv
  obtain ⟨ob1, H⟩ := ck_out H
  obtain ⟨ob2, H⟩ := ck_out H
  refine ⟨by subst hA; exact ob1, by subst hA; exact ob2, hM _ ?_⟩
  refine tr_seq ?_
  refine tr_keepL [0, 1, 4, 5, 6, 8, 9] (fun t9_3 : List Int => mkSl 154 0 [(0, .val (.int .i64) .n t0_1), (1, .val (.list (.st [.int .i64, .int .i64, .int .i64])) .n t1_2), (4, .val (.list (.st [.int .i64, .int .i64, .arr 6 (.arr 6 (.int .i64))])) (.l .n) ([] : List ((Int × Int × List (List Int) × Unit)))), (5, .val (.list (.int .i64)) (.l .n) ([] : List Int)), (6, .val (.list (.list (.int .i64))) (.l (.l .n)) ([] : List (List Int))), (8, .val (.list (.st [.int .i64, .int .i64, .arr 6 (.arr 6 (.int .i64))])) (.l .n) ([] : List ((Int × Int × List (List Int) × Unit)))), (9, .val (.list (.int .i64)) (.l .n) t9_3)]) H (by subst hA; rfl) (fun t9_3 H => ?_)
  clear ob2 ob1 hM hA M A
  refine tr_rg hP tabOk hsp fun A hA M hM => ?_
  cbv
  obtain ⟨ob1, H⟩ := ck_out H
  obtain ⟨ob2, H⟩ := ck_out H
  refine ⟨by subst hA; exact ob1, by subst hA; exact ob2, hM _ ?_⟩
  refine tr_seq ?_
  refine tr_seq ?_
  refine tr_keepL [0, 1, 4, 5, 6, 8, 9, 10] (fun t10_4 : List (List Int) => mkSl 154 0 [(0, .val (.int .i64) .n t0_1), (1, .val (.list (.st [.int .i64, .int .i64, .int .i64])) .n t1_2), (4, .val (.list (.st [.int .i64, .int .i64, .arr 6 (.arr 6 (.int .i64))])) (.l .n) ([] : List ((Int × Int × List (List Int) × Unit)))), (5, .val (.list (.int .i64)) (.l .n) ([] : List Int)), (6, .val (.list (.list (.int .i64))) (.l (.l .n)) ([] : List (List Int))), (8, .val (.list (.st [.int .i64, .int .i64, .arr 6 (.arr 6 (.int .i64))])) (.l .n) ([] : List ((Int × Int × List (List Int) × Unit)))), (9, .val (.list (.int .i64)) (.l .n) t9_3), (10, .val (.list (.list (.int .i64))) (.l (.l .n)) t10_4)]) H (by subst hA; rfl) (fun t10_4 H => ?_)
  clear ob2 ob1 hM hA M A
  refine tr_rg hP tabOk hsp fun A hA M hM => ?_
  cbv
  refine hM _ ?_
  refine tr_block ?_
  refine tr_keep [0, 1, 4, 5, 6, 8, 9, 10, 27, 28] (σ' := mkSl 154 0 [(0, .val (.int .i64) .n t0_1), (1, .val (.list (.st [.int .i64, .int .i64, .int .i64])) .n t1_2), (4, .val (.list (.st [.int .i64, .int .i64, .arr 6 (.arr 6 (.int .i64))])) (.l .n) ([] : List ((Int × Int × List (List Int) × Unit)))), (5, .val (.list (.int .i64)) (.l .n) ([] : List Int)), (6, .val (.list (.list (.int .i64))) (.l (.l .n)) ([] : List (List Int))), (8, .val (.list (.st [.int .i64, .int .i64, .arr 6 (.arr 6 (.int .i64))])) (.l .n) ([] : List ((Int × Int × List (List Int) × Unit)))), (9, .val (.list (.int .i64)) (.l .n) t9_3), (10, .val (.list (.list (.int .i64))) (.l (.l .n)) t10_4), (27, .val (.int .i64) .n t0_1), (28, .val (.int .i64) .n (0 : Int))]) (by subst hA; rfl) ?_
  clear hM hA M A
  obtain ⟨q, hq, Hl, Hr⟩ := bindE_out H
  refine tr_loopE 0 (fun x : List ((Int × Int × List (List Int) × Unit)) × List (List Int) × Int => knowing_L1 t0_1 x.1 x.2.1 x.2.2) (fun x : List ((Int × Int × List (List Int) × Unit)) × List (List Int) × Int => mkSl 154 0 [(0, .val (.int .i64) .n t0_1), (1, .val (.list (.st [.int .i64, .int .i64, .int .i64])) .n t1_2), (4, .val (.list (.st [.int .i64, .int .i64, .arr 6 (.arr 6 (.int .i64))])) (.l .n) ([] : List ((Int × Int × List (List Int) × Unit)))), (5, .val (.list (.int .i64)) (.l .n) ([] : List Int)), (6, .val (.list (.list (.int .i64))) (.l (.l .n)) ([] : List (List Int))), (8, .val (.list (.st [.int .i64, .int .i64, .arr 6 (.arr 6 (.int .i64))])) (.l .n) x.1), (9, .val (.list (.int .i64)) (.l .n) t9_3), (10, .val (.list (.list (.int .i64))) (.l (.l .n)) x.2.1), (27, .val (.int .i64) .n t0_1), (28, .val (.int .i64) .n x.2.2)]) [0, 1, 4, 5, 6, 8, 9, 10, 27, 28] (fun q_10 : List ((Int × Int × List (List Int) × Unit)) × List (List Int) => mkSl 154 0 [(0, .val (.int .i64) .n t0_1), (1, .val (.list (.st [.int .i64, .int .i64, .int .i64])) .n t1_2), (4, .val (.list (.st [.int .i64, .int .i64, .arr 6 (.arr 6 (.int .i64))])) (.l .n) ([] : List ((Int × Int × List (List Int) × Unit)))), (5, .val (.list (.int .i64)) (.l .n) ([] : List Int)), (6, .val (.list (.list (.int .i64))) (.l (.l .n)) ([] : List (List Int))), (8, .val (.list (.st [.int .i64, .int .i64, .arr 6 (.arr 6 (.int .i64))])) (.l .n) q_10.1), (9, .val (.list (.int .i64)) (.l .n) t9_3), (10, .val (.list (.list (.int .i64))) (.l (.l .n)) q_10.2)]) [0, 1, 4, 5, 6, 8, 9, 10] hq rfl Hr (fun q_10 hl σ' h => ?_) (fun x r1 H => ?_)
  · replace H := Hl q_10 hl
    refine tr_keep [0, 1, 4, 5, 6, 8, 9, 10] h ?_
    refine tr_seq ?_
    refine tr_seq ?_
    refine tr_rg hP tabOk hsp fun A hA M hM => ?_
    cbv
    refine hM _ ?_
    refine tr_block ?_
    refine tr_keepL [0, 4, 5, 6, 8, 9, 10, 55, 56, 57] (fun t56_14 : Int => mkSl 154 0 [(0, .val (.int .i64) .n t0_1), (4, .val (.list (.st [.int .i64, .int .i64, .arr 6 (.arr 6 (.int .i64))])) (.l .n) ([] : List ((Int × Int × List (List Int) × Unit)))), (5, .val (.list (.int .i64)) (.l .n) ([] : List Int)), (6, .val (.list (.list (.int .i64))) (.l (.l .n)) ([] : List (List Int))), (8, .val (.list (.st [.int .i64, .int .i64, .arr 6 (.arr 6 (.int .i64))])) (.l .n) q_10.1), (9, .val (.list (.int .i64)) (.l .n) t9_3), (10, .val (.list (.list (.int .i64))) (.l (.l .n)) q_10.2), (55, .val (.list (.st [.int .i64, .int .i64, .int .i64])) .n t1_2), (56, .val (.int .i64) .n t56_14), (57, .val (.int .i64) .n (0 : Int))]) H (by subst hA; rfl) (fun t56_14 H => ?_)
    clear hM hA M A
    obtain ⟨q, hq, Hl, Hr⟩ := bindE_out H
    refine tr_loopE 2 (fun x : List ((Int × Int × List (List Int) × Unit)) × List Int × List (List Int) × Int => knowing_L2 t0_1 t1_2 t56_14 x.1 x.2.1 x.2.2.1 x.2.2.2) (fun x : List ((Int × Int × List (List Int) × Unit)) × List Int × List (List Int) × Int => mkSl 154 0 [(0, .val (.int .i64) .n t0_1), (4, .val (.list (.st [.int .i64, .int .i64, .arr 6 (.arr 6 (.int .i64))])) (.l .n) ([] : List ((Int × Int × List (List Int) × Unit)))), (5, .val (.list (.int .i64)) (.l .n) ([] : List Int)), (6, .val (.list (.list (.int .i64))) (.l (.l .n)) ([] : List (List Int))), (8, .val (.list (.st [.int .i64, .int .i64, .arr 6 (.arr 6 (.int .i64))])) (.l .n) x.1), (9, .val (.list (.int .i64)) (.l .n) x.2.1), (10, .val (.list (.list (.int .i64))) (.l (.l .n)) x.2.2.1), (55, .val (.list (.st [.int .i64, .int .i64, .int .i64])) .n t1_2), (56, .val (.int .i64) .n t56_14), (57, .val (.int .i64) .n x.2.2.2)]) [0, 4, 5, 6, 8, 9, 10, 55, 56, 57] (fun q_22 : List ((Int × Int × List (List Int) × Unit)) × List Int × List (List Int) => mkSl 154 0 [(4, .val (.list (.st [.int .i64, .int .i64, .arr 6 (.arr 6 (.int .i64))])) (.l .n) ([] : List ((Int × Int × List (List Int) × Unit)))), (5, .val (.list (.int .i64)) (.l .n) ([] : List Int)), (6, .val (.list (.list (.int .i64))) (.l (.l .n)) ([] : List (List Int))), (8, .val (.list (.st [.int .i64, .int .i64, .arr 6 (.arr 6 (.int .i64))])) (.l .n) q_22.1), (9, .val (.list (.int .i64)) (.l .n) q_22.2.1), (10, .val (.list (.list (.int .i64))) (.l (.l .n)) q_22.2.2)]) [4, 5, 6, 8, 9, 10] hq rfl Hr (fun q_22 hl σ' h => ?_) (fun x r2 H => ?_)
    · replace H := Hl q_22 hl
      refine tr_keep [4, 5, 6, 8, 9, 10] h ?_
      refine tr_seq ?_
      refine tr_rg hP tabOk hsp fun A hA M hM => ?_
      cbv
      refine hM _ ?_
      refine tr_ret ?_
      have hr := Option.some.inj H
      subst hr
      subst hA
      exact rfl
    · obtain ⟨t8_15, t9_16, t10_17, t57_18⟩ := x
      replace H : knowing_L2 t0_1 t1_2 t56_14 t8_15 t9_16 t10_17 t57_18 = some r2 := H
      unfold knowing_L2 at H
      refine tr_seq ?_
      refine tr_rg hP tabOk hsp fun A hA M hM => ?_
      cbv
      refine hM _ ?_
      refine tr_seq ?_
      refine tr_keep [0, 4, 5, 6, 8, 9, 10, 55, 56, 57, 58] (σ' := mkSl 154 0 [(0, .val (.int .i64) .n t0_1), (4, .val (.list (.st [.int .i64, .int .i64, .arr 6 (.arr 6 (.int .i64))])) (.l .n) ([] : List ((Int × Int × List (List Int) × Unit)))), (5, .val (.list (.int .i64)) (.l .n) ([] : List Int)), (6, .val (.list (.list (.int .i64))) (.l (.l .n)) ([] : List (List Int))), (8, .val (.list (.st [.int .i64, .int .i64, .arr 6 (.arr 6 (.int .i64))])) (.l .n) t8_15), (9, .val (.list (.int .i64)) (.l .n) t9_16), (10, .val (.list (.list (.int .i64))) (.l (.l .n)) t10_17), (55, .val (.list (.st [.int .i64, .int .i64, .int .i64])) .n t1_2), (56, .val (.int .i64) .n t56_14), (57, .val (.int .i64) .n t57_18), (58, .val (.bool) .n (decide (t57_18 < t56_14)))]) (by subst hA; rfl) ?_
      clear hM hA M A
      refine tr_cond rfl (fun hc => ?_) (fun hc => ?_)
      · replace H := if_t H hc
        refine tr_keep [0, 4, 5, 6, 8, 9, 10, 55, 56, 57] (σ' := mkSl 154 0 [(0, .val (.int .i64) .n t0_1), (4, .val (.list (.st [.int .i64, .int .i64, .arr 6 (.arr 6 (.int .i64))])) (.l .n) ([] : List ((Int × Int × List (List Int) × Unit)))), (5, .val (.list (.int .i64)) (.l .n) ([] : List Int)), (6, .val (.list (.list (.int .i64))) (.l (.l .n)) ([] : List (List Int))), (8, .val (.list (.st [.int .i64, .int .i64, .arr 6 (.arr 6 (.int .i64))])) (.l .n) t8_15), (9, .val (.list (.int .i64)) (.l .n) t9_16), (10, .val (.list (.list (.int .i64))) (.l (.l .n)) t10_17), (55, .val (.list (.st [.int .i64, .int .i64, .int .i64])) .n t1_2), (56, .val (.int .i64) .n t56_14), (57, .val (.int .i64) .n t57_18)]) rfl ?_
        refine tr_skip ?_
        refine tr_seq ?_
        refine tr_block ?_
        refine tr_seq ?_
        refine tr_rg hP tabOk hsp fun A hA M hM => ?_
        cbv
        obtain ⟨ob1, H⟩ := ck_out H
        refine ⟨by subst hA; exact ob1, hM _ ?_⟩
        refine tr_seq ?_
        refine tr_keepL [0, 4, 5, 6, 8, 9, 10, 15, 55, 56, 57] (fun t15_23 : (Int × Int × Int × Unit) => mkSl 154 0 [(0, .val (.int .i64) .n t0_1), (4, .val (.list (.st [.int .i64, .int .i64, .arr 6 (.arr 6 (.int .i64))])) (.l .n) ([] : List ((Int × Int × List (List Int) × Unit)))), (5, .val (.list (.int .i64)) (.l .n) ([] : List Int)), (6, .val (.list (.list (.int .i64))) (.l (.l .n)) ([] : List (List Int))), (8, .val (.list (.st [.int .i64, .int .i64, .arr 6 (.arr 6 (.int .i64))])) (.l .n) t8_15), (9, .val (.list (.int .i64)) (.l .n) t9_16), (10, .val (.list (.list (.int .i64))) (.l (.l .n)) t10_17), (15, .val (.box (.st [.int .i64, .int .i64, .int .i64])) (.b .n) t15_23), (55, .val (.list (.st [.int .i64, .int .i64, .int .i64])) .n t1_2), (56, .val (.int .i64) .n t56_14), (57, .val (.int .i64) .n t57_18)]) H (by subst hA; rfl) (fun t15_23 H => ?_)
        clear ob1 hM hA M A
        refine tr_rg hP tabOk hsp fun A hA M hM => ?_
        cbv
        obtain ⟨r_24, hr1, H⟩ := bind_out H
        obtain ⟨pq1, eq1⟩ := hc17 hr1
        obtain ⟨r_25, hr2, H⟩ := bind_out H
        obtain ⟨pq2, eq2⟩ := hc17 hr2
        refine ⟨by subst hA; subst eq1; exact pq1, by subst hA; subst eq1; subst eq2; exact pq2, hM _ ?_⟩
        refine tr_seq ?_
        refine tr_keep [0, 4, 5, 6, 8, 9, 10, 15, 16, 17, 55, 56, 57] (σ' := mkSl 154 0 [(0, .val (.int .i64) .n t0_1), (4, .val (.list (.st [.int .i64, .int .i64, .arr 6 (.arr 6 (.int .i64))])) (.l .n) ([] : List ((Int × Int × List (List Int) × Unit)))), (5, .val (.list (.int .i64)) (.l .n) ([] : List Int)), (6, .val (.list (.list (.int .i64))) (.l (.l .n)) ([] : List (List Int))), (8, .val (.list (.st [.int .i64, .int .i64, .arr 6 (.arr 6 (.int .i64))])) (.l .n) t8_15), (9, .val (.list (.int .i64)) (.l .n) t9_16), (10, .val (.list (.list (.int .i64))) (.l (.l .n)) t10_17), (15, .val (.box (.st [.int .i64, .int .i64, .int .i64])) (.b .n) t15_23), (16, .val (.int .i64) .n r_24), (17, .val (.int .i64) .n r_25), (55, .val (.list (.st [.int .i64, .int .i64, .int .i64])) .n t1_2), (56, .val (.int .i64) .n t56_14), (57, .val (.int .i64) .n t57_18)]) (by subst hA; subst eq1; subst eq2; rfl) ?_
        clear pq2 eq2 hr2 pq1 eq1 hr1 hM hA M A
        refine tr_rg hP tabOk hsp fun A hA M hM => ?_
        cbv
        refine hM _ ?_
        refine tr_keep [0, 4, 5, 6, 8, 9, 10, 16, 17, 55, 56, 57, 71] (σ' := mkSl 154 0 [(0, .val (.int .i64) .n t0_1), (4, .val (.list (.st [.int .i64, .int .i64, .arr 6 (.arr 6 (.int .i64))])) (.l .n) ([] : List ((Int × Int × List (List Int) × Unit)))), (5, .val (.list (.int .i64)) (.l .n) ([] : List Int)), (6, .val (.list (.list (.int .i64))) (.l (.l .n)) ([] : List (List Int))), (8, .val (.list (.st [.int .i64, .int .i64, .arr 6 (.arr 6 (.int .i64))])) (.l .n) t8_15), (9, .val (.list (.int .i64)) (.l .n) t9_16), (10, .val (.list (.list (.int .i64))) (.l (.l .n)) t10_17), (16, .val (.int .i64) .n r_24), (17, .val (.int .i64) .n r_25), (55, .val (.list (.st [.int .i64, .int .i64, .int .i64])) .n t1_2), (56, .val (.int .i64) .n t56_14), (57, .val (.int .i64) .n t57_18), (71, .val (.bool) .n (t15_23.1 == (0 : Int)))]) (by subst hA; rfl) ?_
        clear hM hA M A
        refine tr_join (z := r2) (fun y : List ((Int × Int × List (List Int) × Unit)) × List Int × List (List Int) => knowing_J3 t57_18 y.1 y.2.1 y.2.2) (fun y : List ((Int × Int × List (List Int) × Unit)) × List Int × List (List Int) => mkSl 154 0 [(0, .val (.int .i64) .n t0_1), (4, .val (.list (.st [.int .i64, .int .i64, .arr 6 (.arr 6 (.int .i64))])) (.l .n) ([] : List ((Int × Int × List (List Int) × Unit)))), (5, .val (.list (.int .i64)) (.l .n) ([] : List Int)), (6, .val (.list (.list (.int .i64))) (.l (.l .n)) ([] : List (List Int))), (8, .val (.list (.st [.int .i64, .int .i64, .arr 6 (.arr 6 (.int .i64))])) (.l .n) y.1), (9, .val (.list (.int .i64)) (.l .n) y.2.1), (10, .val (.list (.list (.int .i64))) (.l (.l .n)) y.2.2), (55, .val (.list (.st [.int .i64, .int .i64, .int .i64])) .n t1_2), (56, .val (.int .i64) .n t56_14), (57, .val (.int .i64) .n t57_18)]) [0, 4, 5, 6, 8, 9, 10, 55, 56, 57] (fun _ h => h) (fun y H => ?_) (fun hJ3 => ?_)
        · obtain ⟨t8_26, t9_27, t10_28⟩ := y
          replace H : knowing_J3 t57_18 t8_26 t9_27 t10_28 = some r2 := H
          unfold knowing_J3 at H
          refine tr_rg hP tabOk hsp fun A hA M hM => ?_
          cbv
          refine hM _ ?_
          exact Exists.intro _ (And.intro (Option.some.inj H).symm (by subst hA; rfl))
        · refine tr_cond rfl (fun hc => ?_) (fun hc => ?_)
          · replace H := if_t H hc
            refine tr_keep [0, 4, 5, 6, 8, 9, 10, 16, 17, 55, 56, 57] (σ' := mkSl 154 0 [(0, .val (.int .i64) .n t0_1), (4, .val (.list (.st [.int .i64, .int .i64, .arr 6 (.arr 6 (.int .i64))])) (.l .n) ([] : List ((Int × Int × List (List Int) × Unit)))), (5, .val (.list (.int .i64)) (.l .n) ([] : List Int)), (6, .val (.list (.list (.int .i64))) (.l (.l .n)) ([] : List (List Int))), (8, .val (.list (.st [.int .i64, .int .i64, .arr 6 (.arr 6 (.int .i64))])) (.l .n) t8_15), (9, .val (.list (.int .i64)) (.l .n) t9_16), (10, .val (.list (.list (.int .i64))) (.l (.l .n)) t10_17), (16, .val (.int .i64) .n r_24), (17, .val (.int .i64) .n r_25), (55, .val (.list (.st [.int .i64, .int .i64, .int .i64])) .n t1_2), (56, .val (.int .i64) .n t56_14), (57, .val (.int .i64) .n t57_18)]) rfl ?_
            refine tr_seq ?_
            refine tr_rg hP tabOk hsp fun A hA M hM => ?_
            cbv
            obtain ⟨ob1, H⟩ := ck_out H
            obtain ⟨r_29, hr2, H⟩ := bind_out H
            obtain ⟨pq2, eq2⟩ := hc8 hr2
            refine ⟨by subst hA; exact ob1, by subst hA; subst eq2; exact pq2, hM _ ?_⟩
            refine tr_seq ?_
            refine tr_seq ?_
            refine tr_keep [0, 4, 5, 6, 8, 9, 10, 16, 18, 19, 55, 56, 57] (σ' := mkSl 154 0 [(0, .val (.int .i64) .n t0_1), (4, .val (.list (.st [.int .i64, .int .i64, .arr 6 (.arr 6 (.int .i64))])) (.l .n) ([] : List ((Int × Int × List (List Int) × Unit)))), (5, .val (.list (.int .i64)) (.l .n) ([] : List Int)), (6, .val (.list (.list (.int .i64))) (.l (.l .n)) ([] : List (List Int))), (8, .val (.list (.st [.int .i64, .int .i64, .arr 6 (.arr 6 (.int .i64))])) (.l .n) t8_15), (9, .val (.list (.int .i64)) (.l .n) t9_16), (10, .val (.list (.list (.int .i64))) (.l (.l .n)) t10_17), (16, .val (.int .i64) .n r_24), (18, .val (.box (.st [.int .i64, .int .i64, .arr 6 (.arr 6 (.int .i64))])) (.b .n) r_29.1), (19, .val (.int .i64) .n r_29.2), (55, .val (.list (.st [.int .i64, .int .i64, .int .i64])) .n t1_2), (56, .val (.int .i64) .n t56_14), (57, .val (.int .i64) .n t57_18)]) (by subst hA; subst eq2; rfl) ?_
            clear pq2 eq2 hr2 ob1 hM hA M A
            refine tr_rg hP tabOk hsp fun A hA M hM => ?_
            cbv
            refine hM _ ?_
            refine tr_keep [0, 4, 5, 6, 8, 9, 10, 16, 18, 19, 55, 56, 57, 81] (σ' := mkSl 154 0 [(0, .val (.int .i64) .n t0_1), (4, .val (.list (.st [.int .i64, .int .i64, .arr 6 (.arr 6 (.int .i64))])) (.l .n) ([] : List ((Int × Int × List (List Int) × Unit)))), (5, .val (.list (.int .i64)) (.l .n) ([] : List Int)), (6, .val (.list (.list (.int .i64))) (.l (.l .n)) ([] : List (List Int))), (8, .val (.list (.st [.int .i64, .int .i64, .arr 6 (.arr 6 (.int .i64))])) (.l .n) t8_15), (9, .val (.list (.int .i64)) (.l .n) t9_16), (10, .val (.list (.list (.int .i64))) (.l (.l .n)) t10_17), (16, .val (.int .i64) .n r_24), (18, .val (.box (.st [.int .i64, .int .i64, .arr 6 (.arr 6 (.int .i64))])) (.b .n) r_29.1), (19, .val (.int .i64) .n r_29.2), (55, .val (.list (.st [.int .i64, .int .i64, .int .i64])) .n t1_2), (56, .val (.int .i64) .n t56_14), (57, .val (.int .i64) .n t57_18), (81, .val (.bool) .n (r_29.2 == (8 : Int)))]) (by subst hA; rfl) ?_
            clear hM hA M A
            refine tr_cond rfl (fun hc => ?_) (fun hc => ?_)
            · replace H := if_t H hc
              refine tr_keep [0, 4, 5, 6, 8, 9, 10, 16, 18, 19, 55, 56, 57] (σ' := mkSl 154 0 [(0, .val (.int .i64) .n t0_1), (4, .val (.list (.st [.int .i64, .int .i64, .arr 6 (.arr 6 (.int .i64))])) (.l .n) ([] : List ((Int × Int × List (List Int) × Unit)))), (5, .val (.list (.int .i64)) (.l .n) ([] : List Int)), (6, .val (.list (.list (.int .i64))) (.l (.l .n)) ([] : List (List Int))), (8, .val (.list (.st [.int .i64, .int .i64, .arr 6 (.arr 6 (.int .i64))])) (.l .n) t8_15), (9, .val (.list (.int .i64)) (.l .n) t9_16), (10, .val (.list (.list (.int .i64))) (.l (.l .n)) t10_17), (16, .val (.int .i64) .n r_24), (18, .val (.box (.st [.int .i64, .int .i64, .arr 6 (.arr 6 (.int .i64))])) (.b .n) r_29.1), (19, .val (.int .i64) .n r_29.2), (55, .val (.list (.st [.int .i64, .int .i64, .int .i64])) .n t1_2), (56, .val (.int .i64) .n t56_14), (57, .val (.int .i64) .n t57_18)]) rfl ?_
              refine tr_exit ?_
              refine tr_rg hP tabOk hsp fun A hA M hM => ?_
              cbv
              refine hM _ ?_
              exact Exists.intro _ (And.intro (Option.some.inj H).symm (by subst hA; rfl))
            · replace H := if_f H hc
              refine tr_keep [0, 4, 5, 6, 8, 9, 10, 16, 18, 19, 55, 56, 57] (σ' := mkSl 154 0 [(0, .val (.int .i64) .n t0_1), (4, .val (.list (.st [.int .i64, .int .i64, .arr 6 (.arr 6 (.int .i64))])) (.l .n) ([] : List ((Int × Int × List (List Int) × Unit)))), (5, .val (.list (.int .i64)) (.l .n) ([] : List Int)), (6, .val (.list (.list (.int .i64))) (.l (.l .n)) ([] : List (List Int))), (8, .val (.list (.st [.int .i64, .int .i64, .arr 6 (.arr 6 (.int .i64))])) (.l .n) t8_15), (9, .val (.list (.int .i64)) (.l .n) t9_16), (10, .val (.list (.list (.int .i64))) (.l (.l .n)) t10_17), (16, .val (.int .i64) .n r_24), (18, .val (.box (.st [.int .i64, .int .i64, .arr 6 (.arr 6 (.int .i64))])) (.b .n) r_29.1), (19, .val (.int .i64) .n r_29.2), (55, .val (.list (.st [.int .i64, .int .i64, .int .i64])) .n t1_2), (56, .val (.int .i64) .n t56_14), (57, .val (.int .i64) .n t57_18)]) rfl ?_
              refine tr_skip ?_
              refine tr_seq ?_
              refine tr_seq ?_
              refine tr_rg hP tabOk hsp fun A hA M hM => ?_
              cbv
              refine hM _ ?_
              refine tr_keep [0, 4, 5, 6, 8, 9, 10, 16, 18, 55, 56, 57, 83] (σ' := mkSl 154 0 [(0, .val (.int .i64) .n t0_1), (4, .val (.list (.st [.int .i64, .int .i64, .arr 6 (.arr 6 (.int .i64))])) (.l .n) ([] : List ((Int × Int × List (List Int) × Unit)))), (5, .val (.list (.int .i64)) (.l .n) ([] : List Int)), (6, .val (.list (.list (.int .i64))) (.l (.l .n)) ([] : List (List Int))), (8, .val (.list (.st [.int .i64, .int .i64, .arr 6 (.arr 6 (.int .i64))])) (.l .n) t8_15), (9, .val (.list (.int .i64)) (.l .n) t9_16), (10, .val (.list (.list (.int .i64))) (.l (.l .n)) t10_17), (16, .val (.int .i64) .n r_24), (18, .val (.box (.st [.int .i64, .int .i64, .arr 6 (.arr 6 (.int .i64))])) (.b .n) r_29.1), (55, .val (.list (.st [.int .i64, .int .i64, .int .i64])) .n t1_2), (56, .val (.int .i64) .n t56_14), (57, .val (.int .i64) .n t57_18), (83, .val (.bool) .n (r_29.2 != (0 : Int)))]) (by subst hA; rfl) ?_
              clear hM hA M A
              refine tr_cond rfl (fun hc => ?_) (fun hc => ?_)
              · replace H := if_t H hc
                refine tr_keep [0, 4, 5, 6, 8, 9, 10, 16, 18, 55, 56, 57] (σ' := mkSl 154 0 [(0, .val (.int .i64) .n t0_1), (4, .val (.list (.st [.int .i64, .int .i64, .arr 6 (.arr 6 (.int .i64))])) (.l .n) ([] : List ((Int × Int × List (List Int) × Unit)))), (5, .val (.list (.int .i64)) (.l .n) ([] : List Int)), (6, .val (.list (.list (.int .i64))) (.l (.l .n)) ([] : List (List Int))), (8, .val (.list (.st [.int .i64, .int .i64, .arr 6 (.arr 6 (.int .i64))])) (.l .n) t8_15), (9, .val (.list (.int .i64)) (.l .n) t9_16), (10, .val (.list (.list (.int .i64))) (.l (.l .n)) t10_17), (16, .val (.int .i64) .n r_24), (18, .val (.box (.st [.int .i64, .int .i64, .arr 6 (.arr 6 (.int .i64))])) (.b .n) r_29.1), (55, .val (.list (.st [.int .i64, .int .i64, .int .i64])) .n t1_2), (56, .val (.int .i64) .n t56_14), (57, .val (.int .i64) .n t57_18)]) rfl ?_
                refine tr_seq ?_
                refine tr_rg hP tabOk hsp fun A hA M hM => ?_
                cbv
                refine hM _ ?_
                refine tr_ret ?_
                have hr := Option.some.inj H
                refine Exists.intro _ (And.intro hr.symm (fun hr => ?_))
                subst hr
                subst hA
                exact rfl
              · replace H := if_f H hc
                refine tr_keep [0, 4, 5, 6, 8, 9, 10, 16, 18, 55, 56, 57] (σ' := mkSl 154 0 [(0, .val (.int .i64) .n t0_1), (4, .val (.list (.st [.int .i64, .int .i64, .arr 6 (.arr 6 (.int .i64))])) (.l .n) ([] : List ((Int × Int × List (List Int) × Unit)))), (5, .val (.list (.int .i64)) (.l .n) ([] : List Int)), (6, .val (.list (.list (.int .i64))) (.l (.l .n)) ([] : List (List Int))), (8, .val (.list (.st [.int .i64, .int .i64, .arr 6 (.arr 6 (.int .i64))])) (.l .n) t8_15), (9, .val (.list (.int .i64)) (.l .n) t9_16), (10, .val (.list (.list (.int .i64))) (.l (.l .n)) t10_17), (16, .val (.int .i64) .n r_24), (18, .val (.box (.st [.int .i64, .int .i64, .arr 6 (.arr 6 (.int .i64))])) (.b .n) r_29.1), (55, .val (.list (.st [.int .i64, .int .i64, .int .i64])) .n t1_2), (56, .val (.int .i64) .n t56_14), (57, .val (.int .i64) .n t57_18)]) rfl ?_
                refine tr_skip ?_
                refine tr_seq ?_
                refine tr_rg hP tabOk hsp fun A hA M hM => ?_
                cbv
                obtain ⟨ob1, H⟩ := ck_out H
                refine ⟨by subst hA; exact ob1, hM _ ?_⟩
                refine tr_seq ?_
                refine tr_keepL [0, 4, 5, 6, 8, 9, 10, 16, 55, 56, 57] (fun t8_30 : List ((Int × Int × List (List Int) × Unit)) => mkSl 154 0 [(0, .val (.int .i64) .n t0_1), (4, .val (.list (.st [.int .i64, .int .i64, .arr 6 (.arr 6 (.int .i64))])) (.l .n) ([] : List ((Int × Int × List (List Int) × Unit)))), (5, .val (.list (.int .i64)) (.l .n) ([] : List Int)), (6, .val (.list (.list (.int .i64))) (.l (.l .n)) ([] : List (List Int))), (8, .val (.list (.st [.int .i64, .int .i64, .arr 6 (.arr 6 (.int .i64))])) (.l .n) t8_30), (9, .val (.list (.int .i64)) (.l .n) t9_16), (10, .val (.list (.list (.int .i64))) (.l (.l .n)) t10_17), (16, .val (.int .i64) .n r_24), (55, .val (.list (.st [.int .i64, .int .i64, .int .i64])) .n t1_2), (56, .val (.int .i64) .n t56_14), (57, .val (.int .i64) .n t57_18)]) H (by subst hA; rfl) (fun t8_30 H => ?_)
                clear ob1 hM hA M A
                refine tr_rg hP tabOk hsp fun A hA M hM => ?_
                cbv
                obtain ⟨ob1, H⟩ := ck_out H
                obtain ⟨ob2, H⟩ := ck_out H
                refine ⟨by subst hA; exact ob1, by subst hA; exact ob2, hM _ ?_⟩
                refine tr_keepL [0, 4, 5, 6, 8, 9, 10, 16, 55, 56, 57] (fun t9_31 : List Int => mkSl 154 0 [(0, .val (.int .i64) .n t0_1), (4, .val (.list (.st [.int .i64, .int .i64, .arr 6 (.arr 6 (.int .i64))])) (.l .n) ([] : List ((Int × Int × List (List Int) × Unit)))), (5, .val (.list (.int .i64)) (.l .n) ([] : List Int)), (6, .val (.list (.list (.int .i64))) (.l (.l .n)) ([] : List (List Int))), (8, .val (.list (.st [.int .i64, .int .i64, .arr 6 (.arr 6 (.int .i64))])) (.l .n) t8_30), (9, .val (.list (.int .i64)) (.l .n) t9_31), (10, .val (.list (.list (.int .i64))) (.l (.l .n)) t10_17), (16, .val (.int .i64) .n r_24), (55, .val (.list (.st [.int .i64, .int .i64, .int .i64])) .n t1_2), (56, .val (.int .i64) .n t56_14), (57, .val (.int .i64) .n t57_18)]) H (by subst hA; rfl) (fun t9_31 H => ?_)
                clear ob2 ob1 hM hA M A
                refine tr_rg hP tabOk hsp fun A hA M hM => ?_
                cbv
                obtain ⟨ob1, H⟩ := ck_out H
                obtain ⟨ob2, H⟩ := ck_out H
                obtain ⟨ob3, H⟩ := ck_out H
                refine ⟨by subst hA; exact ob1, by subst hA; exact ob2, by subst hA; exact ob3, hM _ ?_⟩
                exact hJ3 (t8_30, t9_31, t10_17.set r_24.toNat ((t10_17.getD r_24.toNat ([] : List Int)).set r_24.toNat (arR .add .i64 ((t10_17.getD r_24.toNat ([] : List Int)).getD r_24.toNat (0 : Int)) (1 : Int)))) _ H (by subst hA; rfl)
          · replace H := if_f H hc
            refine tr_keep [0, 4, 5, 6, 8, 9, 10, 16, 17, 55, 56, 57] (σ' := mkSl 154 0 [(0, .val (.int .i64) .n t0_1), (4, .val (.list (.st [.int .i64, .int .i64, .arr 6 (.arr 6 (.int .i64))])) (.l .n) ([] : List ((Int × Int × List (List Int) × Unit)))), (5, .val (.list (.int .i64)) (.l .n) ([] : List Int)), (6, .val (.list (.list (.int .i64))) (.l (.l .n)) ([] : List (List Int))), (8, .val (.list (.st [.int .i64, .int .i64, .arr 6 (.arr 6 (.int .i64))])) (.l .n) t8_15), (9, .val (.list (.int .i64)) (.l .n) t9_16), (10, .val (.list (.list (.int .i64))) (.l (.l .n)) t10_17), (16, .val (.int .i64) .n r_24), (17, .val (.int .i64) .n r_25), (55, .val (.list (.st [.int .i64, .int .i64, .int .i64])) .n t1_2), (56, .val (.int .i64) .n t56_14), (57, .val (.int .i64) .n t57_18)]) rfl ?_
            refine tr_seq ?_
            refine tr_rg hP tabOk hsp fun A hA M hM => ?_
            cbv
            refine hM _ ?_
            refine tr_keep [0, 4, 5, 6, 8, 9, 10, 16, 17, 55, 56, 57, 105] (σ' := mkSl 154 0 [(0, .val (.int .i64) .n t0_1), (4, .val (.list (.st [.int .i64, .int .i64, .arr 6 (.arr 6 (.int .i64))])) (.l .n) ([] : List ((Int × Int × List (List Int) × Unit)))), (5, .val (.list (.int .i64)) (.l .n) ([] : List Int)), (6, .val (.list (.list (.int .i64))) (.l (.l .n)) ([] : List (List Int))), (8, .val (.list (.st [.int .i64, .int .i64, .arr 6 (.arr 6 (.int .i64))])) (.l .n) t8_15), (9, .val (.list (.int .i64)) (.l .n) t9_16), (10, .val (.list (.list (.int .i64))) (.l (.l .n)) t10_17), (16, .val (.int .i64) .n r_24), (17, .val (.int .i64) .n r_25), (55, .val (.list (.st [.int .i64, .int .i64, .int .i64])) .n t1_2), (56, .val (.int .i64) .n t56_14), (57, .val (.int .i64) .n t57_18), (105, .val (.bool) .n (r_24 != r_25))]) (by subst hA; rfl) ?_
            clear hM hA M A
            refine tr_cond rfl (fun hc => ?_) (fun hc => ?_)
            · replace H := if_t H hc
              refine tr_keep [0, 4, 5, 6, 8, 9, 10, 16, 17, 55, 56, 57] (σ' := mkSl 154 0 [(0, .val (.int .i64) .n t0_1), (4, .val (.list (.st [.int .i64, .int .i64, .arr 6 (.arr 6 (.int .i64))])) (.l .n) ([] : List ((Int × Int × List (List Int) × Unit)))), (5, .val (.list (.int .i64)) (.l .n) ([] : List Int)), (6, .val (.list (.list (.int .i64))) (.l (.l .n)) ([] : List (List Int))), (8, .val (.list (.st [.int .i64, .int .i64, .arr 6 (.arr 6 (.int .i64))])) (.l .n) t8_15), (9, .val (.list (.int .i64)) (.l .n) t9_16), (10, .val (.list (.list (.int .i64))) (.l (.l .n)) t10_17), (16, .val (.int .i64) .n r_24), (17, .val (.int .i64) .n r_25), (55, .val (.list (.st [.int .i64, .int .i64, .int .i64])) .n t1_2), (56, .val (.int .i64) .n t56_14), (57, .val (.int .i64) .n t57_18)]) rfl ?_
              refine tr_seq ?_
              refine tr_rg hP tabOk hsp fun A hA M hM => ?_
              cbv
              obtain ⟨ob1, H⟩ := ck_out H
              obtain ⟨ob2, H⟩ := ck_out H
              obtain ⟨r_32, hr3, H⟩ := bind_out H
              obtain ⟨pq3, eq3⟩ := hc14 hr3
              refine ⟨by subst hA; exact ob1, by subst hA; exact ob2, by subst hA; subst eq3; exact pq3, hM _ ?_⟩
              refine tr_seq ?_
              refine tr_seq ?_
              refine tr_keep [0, 4, 5, 6, 8, 9, 10, 16, 17, 20, 21, 55, 56, 57] (σ' := mkSl 154 0 [(0, .val (.int .i64) .n t0_1), (4, .val (.list (.st [.int .i64, .int .i64, .arr 6 (.arr 6 (.int .i64))])) (.l .n) ([] : List ((Int × Int × List (List Int) × Unit)))), (5, .val (.list (.int .i64)) (.l .n) ([] : List Int)), (6, .val (.list (.list (.int .i64))) (.l (.l .n)) ([] : List (List Int))), (8, .val (.list (.st [.int .i64, .int .i64, .arr 6 (.arr 6 (.int .i64))])) (.l .n) t8_15), (9, .val (.list (.int .i64)) (.l .n) t9_16), (10, .val (.list (.list (.int .i64))) (.l (.l .n)) t10_17), (16, .val (.int .i64) .n r_24), (17, .val (.int .i64) .n r_25), (20, .val (.box (.st [.int .i64, .int .i64, .arr 6 (.arr 6 (.int .i64))])) (.b .n) r_32.1), (21, .val (.int .i64) .n r_32.2), (55, .val (.list (.st [.int .i64, .int .i64, .int .i64])) .n t1_2), (56, .val (.int .i64) .n t56_14), (57, .val (.int .i64) .n t57_18)]) (by subst hA; subst eq3; rfl) ?_
              clear pq3 eq3 hr3 ob2 ob1 hM hA M A
              refine tr_rg hP tabOk hsp fun A hA M hM => ?_
              cbv
              refine hM _ ?_
              refine tr_keep [0, 4, 5, 6, 8, 9, 10, 16, 17, 20, 55, 56, 57, 119] (σ' := mkSl 154 0 [(0, .val (.int .i64) .n t0_1), (4, .val (.list (.st [.int .i64, .int .i64, .arr 6 (.arr 6 (.int .i64))])) (.l .n) ([] : List ((Int × Int × List (List Int) × Unit)))), (5, .val (.list (.int .i64)) (.l .n) ([] : List Int)), (6, .val (.list (.list (.int .i64))) (.l (.l .n)) ([] : List (List Int))), (8, .val (.list (.st [.int .i64, .int .i64, .arr 6 (.arr 6 (.int .i64))])) (.l .n) t8_15), (9, .val (.list (.int .i64)) (.l .n) t9_16), (10, .val (.list (.list (.int .i64))) (.l (.l .n)) t10_17), (16, .val (.int .i64) .n r_24), (17, .val (.int .i64) .n r_25), (20, .val (.box (.st [.int .i64, .int .i64, .arr 6 (.arr 6 (.int .i64))])) (.b .n) r_32.1), (55, .val (.list (.st [.int .i64, .int .i64, .int .i64])) .n t1_2), (56, .val (.int .i64) .n t56_14), (57, .val (.int .i64) .n t57_18), (119, .val (.bool) .n (r_32.2 != (0 : Int)))]) (by subst hA; rfl) ?_
              clear hM hA M A
              refine tr_cond rfl (fun hc => ?_) (fun hc => ?_)
              · replace H := if_t H hc
                refine tr_keep [0, 4, 5, 6, 8, 9, 10, 16, 17, 20, 55, 56, 57] (σ' := mkSl 154 0 [(0, .val (.int .i64) .n t0_1), (4, .val (.list (.st [.int .i64, .int .i64, .arr 6 (.arr 6 (.int .i64))])) (.l .n) ([] : List ((Int × Int × List (List Int) × Unit)))), (5, .val (.list (.int .i64)) (.l .n) ([] : List Int)), (6, .val (.list (.list (.int .i64))) (.l (.l .n)) ([] : List (List Int))), (8, .val (.list (.st [.int .i64, .int .i64, .arr 6 (.arr 6 (.int .i64))])) (.l .n) t8_15), (9, .val (.list (.int .i64)) (.l .n) t9_16), (10, .val (.list (.list (.int .i64))) (.l (.l .n)) t10_17), (16, .val (.int .i64) .n r_24), (17, .val (.int .i64) .n r_25), (20, .val (.box (.st [.int .i64, .int .i64, .arr 6 (.arr 6 (.int .i64))])) (.b .n) r_32.1), (55, .val (.list (.st [.int .i64, .int .i64, .int .i64])) .n t1_2), (56, .val (.int .i64) .n t56_14), (57, .val (.int .i64) .n t57_18)]) rfl ?_
                refine tr_seq ?_
                refine tr_rg hP tabOk hsp fun A hA M hM => ?_
                cbv
                refine hM _ ?_
                refine tr_ret ?_
                have hr := Option.some.inj H
                refine Exists.intro _ (And.intro hr.symm (fun hr => ?_))
                subst hr
                subst hA
                exact rfl
              · replace H := if_f H hc
                refine tr_keep [0, 4, 5, 6, 8, 9, 10, 16, 17, 20, 55, 56, 57] (σ' := mkSl 154 0 [(0, .val (.int .i64) .n t0_1), (4, .val (.list (.st [.int .i64, .int .i64, .arr 6 (.arr 6 (.int .i64))])) (.l .n) ([] : List ((Int × Int × List (List Int) × Unit)))), (5, .val (.list (.int .i64)) (.l .n) ([] : List Int)), (6, .val (.list (.list (.int .i64))) (.l (.l .n)) ([] : List (List Int))), (8, .val (.list (.st [.int .i64, .int .i64, .arr 6 (.arr 6 (.int .i64))])) (.l .n) t8_15), (9, .val (.list (.int .i64)) (.l .n) t9_16), (10, .val (.list (.list (.int .i64))) (.l (.l .n)) t10_17), (16, .val (.int .i64) .n r_24), (17, .val (.int .i64) .n r_25), (20, .val (.box (.st [.int .i64, .int .i64, .arr 6 (.arr 6 (.int .i64))])) (.b .n) r_32.1), (55, .val (.list (.st [.int .i64, .int .i64, .int .i64])) .n t1_2), (56, .val (.int .i64) .n t56_14), (57, .val (.int .i64) .n t57_18)]) rfl ?_
                refine tr_skip ?_
                refine tr_seq ?_
                refine tr_rg hP tabOk hsp fun A hA M hM => ?_
                cbv
                obtain ⟨ob1, H⟩ := ck_out H
                refine ⟨by subst hA; exact ob1, hM _ ?_⟩
                refine tr_seq ?_
                refine tr_keepL [0, 4, 5, 6, 8, 9, 10, 16, 17, 55, 56, 57] (fun t8_33 : List ((Int × Int × List (List Int) × Unit)) => mkSl 154 0 [(0, .val (.int .i64) .n t0_1), (4, .val (.list (.st [.int .i64, .int .i64, .arr 6 (.arr 6 (.int .i64))])) (.l .n) ([] : List ((Int × Int × List (List Int) × Unit)))), (5, .val (.list (.int .i64)) (.l .n) ([] : List Int)), (6, .val (.list (.list (.int .i64))) (.l (.l .n)) ([] : List (List Int))), (8, .val (.list (.st [.int .i64, .int .i64, .arr 6 (.arr 6 (.int .i64))])) (.l .n) t8_33), (9, .val (.list (.int .i64)) (.l .n) t9_16), (10, .val (.list (.list (.int .i64))) (.l (.l .n)) t10_17), (16, .val (.int .i64) .n r_24), (17, .val (.int .i64) .n r_25), (55, .val (.list (.st [.int .i64, .int .i64, .int .i64])) .n t1_2), (56, .val (.int .i64) .n t56_14), (57, .val (.int .i64) .n t57_18)]) H (by subst hA; rfl) (fun t8_33 H => ?_)
                clear ob1 hM hA M A
                refine tr_rg hP tabOk hsp fun A hA M hM => ?_
                cbv
                refine hM _ ?_
                refine tr_block ?_
                refine tr_keep [0, 4, 5, 6, 8, 9, 10, 16, 17, 55, 56, 57, 124, 125] (σ' := mkSl 154 0 [(0, .val (.int .i64) .n t0_1), (4, .val (.list (.st [.int .i64, .int .i64, .arr 6 (.arr 6 (.int .i64))])) (.l .n) ([] : List ((Int × Int × List (List Int) × Unit)))), (5, .val (.list (.int .i64)) (.l .n) ([] : List Int)), (6, .val (.list (.list (.int .i64))) (.l (.l .n)) ([] : List (List Int))), (8, .val (.list (.st [.int .i64, .int .i64, .arr 6 (.arr 6 (.int .i64))])) (.l .n) t8_33), (9, .val (.list (.int .i64)) (.l .n) t9_16), (10, .val (.list (.list (.int .i64))) (.l (.l .n)) t10_17), (16, .val (.int .i64) .n r_24), (17, .val (.int .i64) .n r_25), (55, .val (.list (.st [.int .i64, .int .i64, .int .i64])) .n t1_2), (56, .val (.int .i64) .n t56_14), (57, .val (.int .i64) .n t57_18), (124, .val (.int .i64) .n t0_1), (125, .val (.int .i64) .n (0 : Int))]) (by subst hA; rfl) ?_
                clear hM hA M A
                obtain ⟨q_37, hq, H⟩ := bind_out H
                refine tr_loopB 4 (fun x : List (List Int) × Int => knowing_L4 t0_1 r_24 r_25 x.1 x.2) (fun x : List (List Int) × Int => mkSl 154 0 [(0, .val (.int .i64) .n t0_1), (4, .val (.list (.st [.int .i64, .int .i64, .arr 6 (.arr 6 (.int .i64))])) (.l .n) ([] : List ((Int × Int × List (List Int) × Unit)))), (5, .val (.list (.int .i64)) (.l .n) ([] : List Int)), (6, .val (.list (.list (.int .i64))) (.l (.l .n)) ([] : List (List Int))), (8, .val (.list (.st [.int .i64, .int .i64, .arr 6 (.arr 6 (.int .i64))])) (.l .n) t8_33), (9, .val (.list (.int .i64)) (.l .n) t9_16), (10, .val (.list (.list (.int .i64))) (.l (.l .n)) x.1), (16, .val (.int .i64) .n r_24), (17, .val (.int .i64) .n r_25), (55, .val (.list (.st [.int .i64, .int .i64, .int .i64])) .n t1_2), (56, .val (.int .i64) .n t56_14), (57, .val (.int .i64) .n t57_18), (124, .val (.int .i64) .n t0_1), (125, .val (.int .i64) .n x.2)]) [0, 4, 5, 6, 8, 9, 10, 16, 17, 55, 56, 57, 124, 125] (fun q_37 : List (List Int) => mkSl 154 0 [(0, .val (.int .i64) .n t0_1), (4, .val (.list (.st [.int .i64, .int .i64, .arr 6 (.arr 6 (.int .i64))])) (.l .n) ([] : List ((Int × Int × List (List Int) × Unit)))), (5, .val (.list (.int .i64)) (.l .n) ([] : List Int)), (6, .val (.list (.list (.int .i64))) (.l (.l .n)) ([] : List (List Int))), (8, .val (.list (.st [.int .i64, .int .i64, .arr 6 (.arr 6 (.int .i64))])) (.l .n) t8_33), (9, .val (.list (.int .i64)) (.l .n) t9_16), (10, .val (.list (.list (.int .i64))) (.l (.l .n)) q_37), (55, .val (.list (.st [.int .i64, .int .i64, .int .i64])) .n t1_2), (56, .val (.int .i64) .n t56_14), (57, .val (.int .i64) .n t57_18)]) [0, 4, 5, 6, 8, 9, 10, 55, 56, 57] hq rfl (fun σ' h => ?_) (fun x r4 H => ?_)
                · exact hJ3 (t8_33, t9_16, q_37) _ H (by rw [← keep_sub (ks2 := [0, 4, 5, 6, 8, 9, 10, 55, 56, 57]) (subB_out rfl), h]; rfl)
                · obtain ⟨t10_34, t125_35⟩ := x
                  replace H : knowing_L4 t0_1 r_24 r_25 t10_34 t125_35 = some r4 := H
                  unfold knowing_L4 at H
                  refine tr_seq ?_
                  refine tr_rg hP tabOk hsp fun A hA M hM => ?_
                  cbv
                  refine hM _ ?_
                  refine tr_seq ?_
                  refine tr_keep [0, 4, 5, 6, 8, 9, 10, 16, 17, 55, 56, 57, 124, 125, 126] (σ' := mkSl 154 0 [(0, .val (.int .i64) .n t0_1), (4, .val (.list (.st [.int .i64, .int .i64, .arr 6 (.arr 6 (.int .i64))])) (.l .n) ([] : List ((Int × Int × List (List Int) × Unit)))), (5, .val (.list (.int .i64)) (.l .n) ([] : List Int)), (6, .val (.list (.list (.int .i64))) (.l (.l .n)) ([] : List (List Int))), (8, .val (.list (.st [.int .i64, .int .i64, .arr 6 (.arr 6 (.int .i64))])) (.l .n) t8_33), (9, .val (.list (.int .i64)) (.l .n) t9_16), (10, .val (.list (.list (.int .i64))) (.l (.l .n)) t10_34), (16, .val (.int .i64) .n r_24), (17, .val (.int .i64) .n r_25), (55, .val (.list (.st [.int .i64, .int .i64, .int .i64])) .n t1_2), (56, .val (.int .i64) .n t56_14), (57, .val (.int .i64) .n t57_18), (124, .val (.int .i64) .n t0_1), (125, .val (.int .i64) .n t125_35), (126, .val (.bool) .n (decide (t125_35 < t0_1)))]) (by subst hA; rfl) ?_
                  clear hM hA M A
                  refine tr_cond rfl (fun hc => ?_) (fun hc => ?_)
                  · replace H := if_t H hc
                    refine tr_keep [0, 4, 5, 6, 8, 9, 10, 16, 17, 55, 56, 57, 124, 125] (σ' := mkSl 154 0 [(0, .val (.int .i64) .n t0_1), (4, .val (.list (.st [.int .i64, .int .i64, .arr 6 (.arr 6 (.int .i64))])) (.l .n) ([] : List ((Int × Int × List (List Int) × Unit)))), (5, .val (.list (.int .i64)) (.l .n) ([] : List Int)), (6, .val (.list (.list (.int .i64))) (.l (.l .n)) ([] : List (List Int))), (8, .val (.list (.st [.int .i64, .int .i64, .arr 6 (.arr 6 (.int .i64))])) (.l .n) t8_33), (9, .val (.list (.int .i64)) (.l .n) t9_16), (10, .val (.list (.list (.int .i64))) (.l (.l .n)) t10_34), (16, .val (.int .i64) .n r_24), (17, .val (.int .i64) .n r_25), (55, .val (.list (.st [.int .i64, .int .i64, .int .i64])) .n t1_2), (56, .val (.int .i64) .n t56_14), (57, .val (.int .i64) .n t57_18), (124, .val (.int .i64) .n t0_1), (125, .val (.int .i64) .n t125_35)]) rfl ?_
                    refine tr_skip ?_
                    refine tr_seq ?_
                    refine tr_block ?_
                    refine tr_seq ?_
                    refine tr_rg hP tabOk hsp fun A hA M hM => ?_
                    cbv
                    refine hM _ ?_
                    refine tr_keep [0, 4, 5, 6, 8, 9, 10, 16, 17, 22, 55, 56, 57, 124, 125] (σ' := mkSl 154 0 [(0, .val (.int .i64) .n t0_1), (4, .val (.list (.st [.int .i64, .int .i64, .arr 6 (.arr 6 (.int .i64))])) (.l .n) ([] : List ((Int × Int × List (List Int) × Unit)))), (5, .val (.list (.int .i64)) (.l .n) ([] : List Int)), (6, .val (.list (.list (.int .i64))) (.l (.l .n)) ([] : List (List Int))), (8, .val (.list (.st [.int .i64, .int .i64, .arr 6 (.arr 6 (.int .i64))])) (.l .n) t8_33), (9, .val (.list (.int .i64)) (.l .n) t9_16), (10, .val (.list (.list (.int .i64))) (.l (.l .n)) t10_34), (16, .val (.int .i64) .n r_24), (17, .val (.int .i64) .n r_25), (22, .val (.int .i64) .n t125_35), (55, .val (.list (.st [.int .i64, .int .i64, .int .i64])) .n t1_2), (56, .val (.int .i64) .n t56_14), (57, .val (.int .i64) .n t57_18), (124, .val (.int .i64) .n t0_1), (125, .val (.int .i64) .n t125_35)]) (by subst hA; rfl) ?_
                    clear hM hA M A
                    refine tr_rg hP tabOk hsp fun A hA M hM => ?_
                    cbv
                    obtain ⟨ob1, H⟩ := ck_out H
                    obtain ⟨ob2, H⟩ := ck_out H
                    obtain ⟨ob3, H⟩ := ck_out H
                    obtain ⟨ob4, H⟩ := ck_out H
                    obtain ⟨ob5, H⟩ := ck_out H
                    obtain ⟨ob6, H⟩ := ck_out H
                    refine ⟨by subst hA; exact ob1, by subst hA; exact ob2, by subst hA; exact ob3, by subst hA; exact ob4, by subst hA; exact ob5, by subst hA; exact ob6, hM _ ?_⟩
                    refine tr_keepL [0, 4, 5, 6, 8, 9, 10, 16, 17, 55, 56, 57, 124, 125] (fun t10_38 : List (List Int) => mkSl 154 0 [(0, .val (.int .i64) .n t0_1), (4, .val (.list (.st [.int .i64, .int .i64, .arr 6 (.arr 6 (.int .i64))])) (.l .n) ([] : List ((Int × Int × List (List Int) × Unit)))), (5, .val (.list (.int .i64)) (.l .n) ([] : List Int)), (6, .val (.list (.list (.int .i64))) (.l (.l .n)) ([] : List (List Int))), (8, .val (.list (.st [.int .i64, .int .i64, .arr 6 (.arr 6 (.int .i64))])) (.l .n) t8_33), (9, .val (.list (.int .i64)) (.l .n) t9_16), (10, .val (.list (.list (.int .i64))) (.l (.l .n)) t10_38), (16, .val (.int .i64) .n r_24), (17, .val (.int .i64) .n r_25), (55, .val (.list (.st [.int .i64, .int .i64, .int .i64])) .n t1_2), (56, .val (.int .i64) .n t56_14), (57, .val (.int .i64) .n t57_18), (124, .val (.int .i64) .n t0_1), (125, .val (.int .i64) .n t125_35)]) H (by subst hA; rfl) (fun t10_38 H => ?_)
                    clear ob6 ob5 ob4 ob3 ob2 ob1 hM hA M A
                    refine tr_rg hP tabOk hsp fun A hA M hM => ?_
                    cbv
                    refine hM _ ?_
                    exact Exists.intro _ (And.intro (Option.some.inj H).symm (by subst hA; rfl))
                  · replace H := if_f H hc
                    refine tr_keep [0, 4, 5, 6, 8, 9, 10, 16, 17, 55, 56, 57, 124, 125] (σ' := mkSl 154 0 [(0, .val (.int .i64) .n t0_1), (4, .val (.list (.st [.int .i64, .int .i64, .arr 6 (.arr 6 (.int .i64))])) (.l .n) ([] : List ((Int × Int × List (List Int) × Unit)))), (5, .val (.list (.int .i64)) (.l .n) ([] : List Int)), (6, .val (.list (.list (.int .i64))) (.l (.l .n)) ([] : List (List Int))), (8, .val (.list (.st [.int .i64, .int .i64, .arr 6 (.arr 6 (.int .i64))])) (.l .n) t8_33), (9, .val (.list (.int .i64)) (.l .n) t9_16), (10, .val (.list (.list (.int .i64))) (.l (.l .n)) t10_34), (16, .val (.int .i64) .n r_24), (17, .val (.int .i64) .n r_25), (55, .val (.list (.st [.int .i64, .int .i64, .int .i64])) .n t1_2), (56, .val (.int .i64) .n t56_14), (57, .val (.int .i64) .n t57_18), (124, .val (.int .i64) .n t0_1), (125, .val (.int .i64) .n t125_35)]) rfl ?_
                    refine tr_exit ?_
                    exact And.intro rfl (Exists.intro _ (And.intro (Option.some.inj H).symm (by rfl)))
            · replace H := if_f H hc
              refine tr_keep [0, 4, 5, 6, 8, 9, 10, 16, 17, 55, 56, 57] (σ' := mkSl 154 0 [(0, .val (.int .i64) .n t0_1), (4, .val (.list (.st [.int .i64, .int .i64, .arr 6 (.arr 6 (.int .i64))])) (.l .n) ([] : List ((Int × Int × List (List Int) × Unit)))), (5, .val (.list (.int .i64)) (.l .n) ([] : List Int)), (6, .val (.list (.list (.int .i64))) (.l (.l .n)) ([] : List (List Int))), (8, .val (.list (.st [.int .i64, .int .i64, .arr 6 (.arr 6 (.int .i64))])) (.l .n) t8_15), (9, .val (.list (.int .i64)) (.l .n) t9_16), (10, .val (.list (.list (.int .i64))) (.l (.l .n)) t10_17), (16, .val (.int .i64) .n r_24), (17, .val (.int .i64) .n r_25), (55, .val (.list (.st [.int .i64, .int .i64, .int .i64])) .n t1_2), (56, .val (.int .i64) .n t56_14), (57, .val (.int .i64) .n t57_18)]) rfl ?_
              refine tr_skip ?_
              exact hJ3 (t8_15, t9_16, t10_17) _ H (by rfl)
      · replace H := if_f H hc
        refine tr_keep [0, 4, 5, 6, 8, 9, 10, 55, 56, 57] (σ' := mkSl 154 0 [(0, .val (.int .i64) .n t0_1), (4, .val (.list (.st [.int .i64, .int .i64, .arr 6 (.arr 6 (.int .i64))])) (.l .n) ([] : List ((Int × Int × List (List Int) × Unit)))), (5, .val (.list (.int .i64)) (.l .n) ([] : List Int)), (6, .val (.list (.list (.int .i64))) (.l (.l .n)) ([] : List (List Int))), (8, .val (.list (.st [.int .i64, .int .i64, .arr 6 (.arr 6 (.int .i64))])) (.l .n) t8_15), (9, .val (.list (.int .i64)) (.l .n) t9_16), (10, .val (.list (.list (.int .i64))) (.l (.l .n)) t10_17), (55, .val (.list (.st [.int .i64, .int .i64, .int .i64])) .n t1_2), (56, .val (.int .i64) .n t56_14), (57, .val (.int .i64) .n t57_18)]) rfl ?_
        refine tr_exit ?_
        exact And.intro rfl (Exists.intro _ (And.intro (Option.some.inj H).symm (by rfl)))
  · obtain ⟨t8_5, t10_6, t28_7⟩ := x
    replace H : knowing_L1 t0_1 t8_5 t10_6 t28_7 = some r1 := H
    unfold knowing_L1 at H
    refine tr_seq ?_
    refine tr_rg hP tabOk hsp fun A hA M hM => ?_
    cbv
    refine hM _ ?_
    refine tr_seq ?_
    refine tr_keep [0, 1, 4, 5, 6, 8, 9, 10, 27, 28, 29] (σ' := mkSl 154 0 [(0, .val (.int .i64) .n t0_1), (1, .val (.list (.st [.int .i64, .int .i64, .int .i64])) .n t1_2), (4, .val (.list (.st [.int .i64, .int .i64, .arr 6 (.arr 6 (.int .i64))])) (.l .n) ([] : List ((Int × Int × List (List Int) × Unit)))), (5, .val (.list (.int .i64)) (.l .n) ([] : List Int)), (6, .val (.list (.list (.int .i64))) (.l (.l .n)) ([] : List (List Int))), (8, .val (.list (.st [.int .i64, .int .i64, .arr 6 (.arr 6 (.int .i64))])) (.l .n) t8_5), (9, .val (.list (.int .i64)) (.l .n) t9_3), (10, .val (.list (.list (.int .i64))) (.l (.l .n)) t10_6), (27, .val (.int .i64) .n t0_1), (28, .val (.int .i64) .n t28_7), (29, .val (.bool) .n (decide (t28_7 < t0_1)))]) (by subst hA; rfl) ?_
    clear hM hA M A
    refine tr_cond rfl (fun hc => ?_) (fun hc => ?_)
    · replace H := if_t H hc
      refine tr_keep [0, 1, 4, 5, 6, 8, 9, 10, 27, 28] (σ' := mkSl 154 0 [(0, .val (.int .i64) .n t0_1), (1, .val (.list (.st [.int .i64, .int .i64, .int .i64])) .n t1_2), (4, .val (.list (.st [.int .i64, .int .i64, .arr 6 (.arr 6 (.int .i64))])) (.l .n) ([] : List ((Int × Int × List (List Int) × Unit)))), (5, .val (.list (.int .i64)) (.l .n) ([] : List Int)), (6, .val (.list (.list (.int .i64))) (.l (.l .n)) ([] : List (List Int))), (8, .val (.list (.st [.int .i64, .int .i64, .arr 6 (.arr 6 (.int .i64))])) (.l .n) t8_5), (9, .val (.list (.int .i64)) (.l .n) t9_3), (10, .val (.list (.list (.int .i64))) (.l (.l .n)) t10_6), (27, .val (.int .i64) .n t0_1), (28, .val (.int .i64) .n t28_7)]) rfl ?_
      refine tr_skip ?_
      refine tr_seq ?_
      refine tr_block ?_
      refine tr_seq ?_
      refine tr_rg hP tabOk hsp fun A hA M hM => ?_
      cbv
      refine hM _ ?_
      refine tr_seq ?_
      refine tr_keep [0, 1, 4, 5, 6, 8, 9, 10, 11, 27, 28] (σ' := mkSl 154 0 [(0, .val (.int .i64) .n t0_1), (1, .val (.list (.st [.int .i64, .int .i64, .int .i64])) .n t1_2), (4, .val (.list (.st [.int .i64, .int .i64, .arr 6 (.arr 6 (.int .i64))])) (.l .n) ([] : List ((Int × Int × List (List Int) × Unit)))), (5, .val (.list (.int .i64)) (.l .n) ([] : List Int)), (6, .val (.list (.list (.int .i64))) (.l (.l .n)) ([] : List (List Int))), (8, .val (.list (.st [.int .i64, .int .i64, .arr 6 (.arr 6 (.int .i64))])) (.l .n) t8_5), (9, .val (.list (.int .i64)) (.l .n) t9_3), (10, .val (.list (.list (.int .i64))) (.l (.l .n)) t10_6), (11, .val (.int .i64) .n t28_7), (27, .val (.int .i64) .n t0_1), (28, .val (.int .i64) .n t28_7)]) (by subst hA; rfl) ?_
      clear hM hA M A
      refine tr_rg hP tabOk hsp fun A hA M hM => ?_
      cbv
      obtain ⟨r_11, hr1, H⟩ := bind_out H
      obtain ⟨pq1, eq1⟩ := hc7 hr1
      refine ⟨by subst hA; subst eq1; exact pq1, hM _ ?_⟩
      refine tr_seq ?_
      refine tr_seq ?_
      refine tr_keep [0, 1, 4, 5, 6, 8, 9, 10, 11, 12, 13, 27, 28] (σ' := mkSl 154 0 [(0, .val (.int .i64) .n t0_1), (1, .val (.list (.st [.int .i64, .int .i64, .int .i64])) .n t1_2), (4, .val (.list (.st [.int .i64, .int .i64, .arr 6 (.arr 6 (.int .i64))])) (.l .n) ([] : List ((Int × Int × List (List Int) × Unit)))), (5, .val (.list (.int .i64)) (.l .n) ([] : List Int)), (6, .val (.list (.list (.int .i64))) (.l (.l .n)) ([] : List (List Int))), (8, .val (.list (.st [.int .i64, .int .i64, .arr 6 (.arr 6 (.int .i64))])) (.l .n) t8_5), (9, .val (.list (.int .i64)) (.l .n) t9_3), (10, .val (.list (.list (.int .i64))) (.l (.l .n)) t10_6), (11, .val (.int .i64) .n t28_7), (12, .val (.box (.st [.int .i64, .int .i64, .arr 6 (.arr 6 (.int .i64))])) (.b .n) r_11.1), (13, .val (.int .i64) .n r_11.2), (27, .val (.int .i64) .n t0_1), (28, .val (.int .i64) .n t28_7)]) (by subst hA; subst eq1; rfl) ?_
      clear pq1 eq1 hr1 hM hA M A
      refine tr_rg hP tabOk hsp fun A hA M hM => ?_
      cbv
      refine hM _ ?_
      refine tr_keep [0, 1, 4, 5, 6, 8, 9, 10, 11, 12, 27, 28, 44] (σ' := mkSl 154 0 [(0, .val (.int .i64) .n t0_1), (1, .val (.list (.st [.int .i64, .int .i64, .int .i64])) .n t1_2), (4, .val (.list (.st [.int .i64, .int .i64, .arr 6 (.arr 6 (.int .i64))])) (.l .n) ([] : List ((Int × Int × List (List Int) × Unit)))), (5, .val (.list (.int .i64)) (.l .n) ([] : List Int)), (6, .val (.list (.list (.int .i64))) (.l (.l .n)) ([] : List (List Int))), (8, .val (.list (.st [.int .i64, .int .i64, .arr 6 (.arr 6 (.int .i64))])) (.l .n) t8_5), (9, .val (.list (.int .i64)) (.l .n) t9_3), (10, .val (.list (.list (.int .i64))) (.l (.l .n)) t10_6), (11, .val (.int .i64) .n t28_7), (12, .val (.box (.st [.int .i64, .int .i64, .arr 6 (.arr 6 (.int .i64))])) (.b .n) r_11.1), (27, .val (.int .i64) .n t0_1), (28, .val (.int .i64) .n t28_7), (44, .val (.bool) .n ((r_11.2 != (0 : Int)) || (r_11.1.1 != t0_1)))]) (by subst hA; rfl) ?_
      clear hM hA M A
      refine tr_cond rfl (fun hc => ?_) (fun hc => ?_)
      · replace H := if_t H hc
        refine tr_keep [0, 1, 4, 5, 6, 8, 9, 10, 11, 12, 27, 28] (σ' := mkSl 154 0 [(0, .val (.int .i64) .n t0_1), (1, .val (.list (.st [.int .i64, .int .i64, .int .i64])) .n t1_2), (4, .val (.list (.st [.int .i64, .int .i64, .arr 6 (.arr 6 (.int .i64))])) (.l .n) ([] : List ((Int × Int × List (List Int) × Unit)))), (5, .val (.list (.int .i64)) (.l .n) ([] : List Int)), (6, .val (.list (.list (.int .i64))) (.l (.l .n)) ([] : List (List Int))), (8, .val (.list (.st [.int .i64, .int .i64, .arr 6 (.arr 6 (.int .i64))])) (.l .n) t8_5), (9, .val (.list (.int .i64)) (.l .n) t9_3), (10, .val (.list (.list (.int .i64))) (.l (.l .n)) t10_6), (11, .val (.int .i64) .n t28_7), (12, .val (.box (.st [.int .i64, .int .i64, .arr 6 (.arr 6 (.int .i64))])) (.b .n) r_11.1), (27, .val (.int .i64) .n t0_1), (28, .val (.int .i64) .n t28_7)]) rfl ?_
        refine tr_seq ?_
        refine tr_rg hP tabOk hsp fun A hA M hM => ?_
        cbv
        refine hM _ ?_
        refine tr_ret ?_
        have hr := Option.some.inj H
        refine Exists.intro _ (And.intro hr.symm (fun hr => ?_))
        subst hr
        subst hA
        exact rfl
      · replace H := if_f H hc
        refine tr_keep [0, 1, 4, 5, 6, 8, 9, 10, 11, 12, 27, 28] (σ' := mkSl 154 0 [(0, .val (.int .i64) .n t0_1), (1, .val (.list (.st [.int .i64, .int .i64, .int .i64])) .n t1_2), (4, .val (.list (.st [.int .i64, .int .i64, .arr 6 (.arr 6 (.int .i64))])) (.l .n) ([] : List ((Int × Int × List (List Int) × Unit)))), (5, .val (.list (.int .i64)) (.l .n) ([] : List Int)), (6, .val (.list (.list (.int .i64))) (.l (.l .n)) ([] : List (List Int))), (8, .val (.list (.st [.int .i64, .int .i64, .arr 6 (.arr 6 (.int .i64))])) (.l .n) t8_5), (9, .val (.list (.int .i64)) (.l .n) t9_3), (10, .val (.list (.list (.int .i64))) (.l (.l .n)) t10_6), (11, .val (.int .i64) .n t28_7), (12, .val (.box (.st [.int .i64, .int .i64, .arr 6 (.arr 6 (.int .i64))])) (.b .n) r_11.1), (27, .val (.int .i64) .n t0_1), (28, .val (.int .i64) .n t28_7)]) rfl ?_
        refine tr_skip ?_
        refine tr_seq ?_
        refine tr_rg hP tabOk hsp fun A hA M hM => ?_
        cbv
        obtain ⟨ob1, H⟩ := ck_out H
        refine ⟨by subst hA; exact ob1, hM _ ?_⟩
        refine tr_keepL [0, 1, 4, 5, 6, 8, 9, 10, 11, 27, 28] (fun t8_12 : List ((Int × Int × List (List Int) × Unit)) => mkSl 154 0 [(0, .val (.int .i64) .n t0_1), (1, .val (.list (.st [.int .i64, .int .i64, .int .i64])) .n t1_2), (4, .val (.list (.st [.int .i64, .int .i64, .arr 6 (.arr 6 (.int .i64))])) (.l .n) ([] : List ((Int × Int × List (List Int) × Unit)))), (5, .val (.list (.int .i64)) (.l .n) ([] : List Int)), (6, .val (.list (.list (.int .i64))) (.l (.l .n)) ([] : List (List Int))), (8, .val (.list (.st [.int .i64, .int .i64, .arr 6 (.arr 6 (.int .i64))])) (.l .n) t8_12), (9, .val (.list (.int .i64)) (.l .n) t9_3), (10, .val (.list (.list (.int .i64))) (.l (.l .n)) t10_6), (11, .val (.int .i64) .n t28_7), (27, .val (.int .i64) .n t0_1), (28, .val (.int .i64) .n t28_7)]) H (by subst hA; rfl) (fun t8_12 H => ?_)
        clear ob1 hM hA M A
        refine tr_rg hP tabOk hsp fun A hA M hM => ?_
        cbv
        obtain ⟨ob1, H⟩ := ck_out H
        obtain ⟨ob2, H⟩ := ck_out H
        obtain ⟨ob3, H⟩ := ck_out H
        refine ⟨by subst hA; exact ob1, by subst hA; exact ob2, by subst hA; exact ob3, hM _ ?_⟩
        refine tr_keepL [0, 1, 4, 5, 6, 8, 9, 10, 27, 28] (fun t10_13 : List (List Int) => mkSl 154 0 [(0, .val (.int .i64) .n t0_1), (1, .val (.list (.st [.int .i64, .int .i64, .int .i64])) .n t1_2), (4, .val (.list (.st [.int .i64, .int .i64, .arr 6 (.arr 6 (.int .i64))])) (.l .n) ([] : List ((Int × Int × List (List Int) × Unit)))), (5, .val (.list (.int .i64)) (.l .n) ([] : List Int)), (6, .val (.list (.list (.int .i64))) (.l (.l .n)) ([] : List (List Int))), (8, .val (.list (.st [.int .i64, .int .i64, .arr 6 (.arr 6 (.int .i64))])) (.l .n) t8_12), (9, .val (.list (.int .i64)) (.l .n) t9_3), (10, .val (.list (.list (.int .i64))) (.l (.l .n)) t10_13), (27, .val (.int .i64) .n t0_1), (28, .val (.int .i64) .n t28_7)]) H (by subst hA; rfl) (fun t10_13 H => ?_)
        clear ob3 ob2 ob1 hM hA M A
        refine tr_rg hP tabOk hsp fun A hA M hM => ?_
        cbv
        refine hM _ ?_
        exact Exists.intro _ (And.intro (Option.some.inj H).symm (by subst hA; rfl))
    · replace H := if_f H hc
      refine tr_keep [0, 1, 4, 5, 6, 8, 9, 10, 27, 28] (σ' := mkSl 154 0 [(0, .val (.int .i64) .n t0_1), (1, .val (.list (.st [.int .i64, .int .i64, .int .i64])) .n t1_2), (4, .val (.list (.st [.int .i64, .int .i64, .arr 6 (.arr 6 (.int .i64))])) (.l .n) ([] : List ((Int × Int × List (List Int) × Unit)))), (5, .val (.list (.int .i64)) (.l .n) ([] : List Int)), (6, .val (.list (.list (.int .i64))) (.l (.l .n)) ([] : List (List Int))), (8, .val (.list (.st [.int .i64, .int .i64, .arr 6 (.arr 6 (.int .i64))])) (.l .n) t8_5), (9, .val (.list (.int .i64)) (.l .n) t9_3), (10, .val (.list (.list (.int .i64))) (.l (.l .n)) t10_6), (27, .val (.int .i64) .n t0_1), (28, .val (.int .i64) .n t28_7)]) rfl ?_
      refine tr_exit ?_
      exact And.intro rfl (Exists.intro _ (And.intro (Option.some.inj H).symm (by rfl)))
theorem knowing_sp : ∃ (pg : PT.denL [.int .i64, .list (.st [.int .i64, .int .i64, .int .i64])] → Prop) (fg : PT.denL [.int .i64, .list (.st [.int .i64, .int .i64, .int .i64])] → PT.denL [.list (.st [.int .i64, .int .i64, .arr 6 (.arr 6 (.int .i64))]), .list (.int .i64), .list (.list (.int .i64)), .bool]), SpecRuns Try.prog 11 ⟨[.int .i64, .list (.st [.int .i64, .int .i64, .int .i64])], [.v, .v], [.list (.st [.int .i64, .int .i64, .arr 6 (.arr 6 (.int .i64))]), .list (.int .i64), .list (.list (.int .i64)), .bool], [.l .n, .l .n, .l (.l .n), .n], pg, fg⟩ ∧ (∀ {a1 : Int} {a2 : List ((Int × Int × Int × Unit))} {y : List ((Int × Int × List (List Int) × Unit)) × List Int × List (List Int) × Bool}, knowing a1 a2 = some y → pg (a1, a2, ()) ∧ y = ((fg (a1, a2, ())).1, (fg (a1, a2, ())).2.1, (fg (a1, a2, ())).2.2.1, (fg (a1, a2, ())).2.2.2.1)) ∧ (∀ {a1 : Int} {a2 : List ((Int × Int × Int × Unit))}, (knowing a1 a2).isSome = true → pg (a1, a2, ())) ∧ ∀ {a1 : Int} {a2 : List ((Int × Int × Int × Unit))}, (knowing a1 a2).getD (([] : List ((Int × Int × List (List Int) × Unit))), ([] : List Int), ([] : List (List Int)), false) = ((fg (a1, a2, ())).1, (fg (a1, a2, ())).2.1, (fg (a1, a2, ())).2.2.1, (fg (a1, a2, ())).2.2.2.1) := by
  obtain ⟨pg, fg, h, hc, hi, hd⟩ := spec_hide knowing_runs
  refine ⟨pg, fg, h, ?_, ?_, ?_⟩
  · intro a1 a2 y e
    obtain ⟨h1, h2⟩ := hc (a1, a2, ()) (y.1, y.2.1, y.2.2.1, y.2.2.2, ()) (congrArg (Option.map fun r => (r.1, r.2.1, r.2.2.1, r.2.2.2, ())) e)
    exact ⟨h1, by first | (rw [h2]; done) | (rw [h2]; rfl)⟩
  · intro a1 a2
    intro e
    exact hi (a1, a2, ()) (map_isSome e)
  · intro a1 a2
    rw [hd (a1, a2, ())]
    cases knowing a1 a2 <;> rfl
end Go.Proofs.Ytikbileeohddjaa.Mt
