/- Functions of the program as functions that may fail, and that the code computes them (printed). Each theorem bears its conditions itself. -/
import Derived.Test.YtikbileeohddjaaMtDefs
import Derived.Test.YtikbileeohddjaaMtTab
import Derived.Test.YtikbileeohddjaaMtQknowing
import Derived.Test.YtikbileeohddjaaMtQfew
import Derived.Test.YtikbileeohddjaaMtQmatQFirm
import Derived.Test.YtikbileeohddjaaMtQmatQCheck
open Go Go.Proofs.Ytikbileeohddjaa.Sy Go.Proofs
set_option maxHeartbeats 4000000
set_option maxRecDepth 100000
set_option cbv.maxSteps 10000000
set_option linter.unusedVariables false
set_option linter.unusedSimpArgs false
namespace Go.Proofs.Ytikbileeohddjaa.Mt
theorem MatTrue_runs : SpecRuns Try.prog 4 (oSpec [.int .i64, .list (.st [.int .i64, .int .i64, .int .i64])] [.v, .v] [.bool] [.n] fun x => (MatTrue x.1 x.2.1).map fun r => (r, ())) := by
  obtain ⟨pg11, fg11, hs11, hc11, hi11, hd11⟩ := knowing_sp
  obtain ⟨pg12, fg12, hs12, hc12, hi12, hd12⟩ := few_sp
  obtain ⟨pg9, fg9, hs9, hc9, hi9, hd9⟩ := mat_Firm_sp
  obtain ⟨pg13, fg13, hs13, hc13, hi13, hd13⟩ := mat_Check_sp
  have hsp : SpecsOk Try.prog [(11, ⟨[.int .i64, .list (.st [.int .i64, .int .i64, .int .i64])], [.v, .v], [.list (.st [.int .i64, .int .i64, .arr 6 (.arr 6 (.int .i64))]), .list (.int .i64), .list (.list (.int .i64)), .bool], [.l .n, .l .n, .l (.l .n), .n], pg11, fg11⟩), (12, ⟨[.int .i64], [.v], [.int .i64], [.n], pg12, fg12⟩), (9, ⟨[.st [.int .i64, .int .i64, .arr 6 (.arr 6 (.int .i64))]], [.v], [.arr 6 (.int .i64), .int .i64], [.n, .n], pg9, fg9⟩), (13, ⟨[.st [.int .i64, .int .i64, .arr 6 (.arr 6 (.int .i64))]], [.v], [.int .i64], [.n], pg13, fg13⟩)] := (specsOk_cons Try.func11 (by kernel_rfl) (by kernel_rfl) hs11 (specsOk_cons Try.func12 (by kernel_rfl) (by kernel_rfl) hs12 (specsOk_cons Try.func9 (by kernel_rfl) (by kernel_rfl) hs9 (specsOk_cons Try.func13 (by kernel_rfl) (by kernel_rfl) hs13 specsOk_nil))))
  refine runs_of_o tabOk Try.func4 rfl (Nat.le_of_ble_eq_true rfl) rfl ?_
  rintro E ⟨(t0_1 : Int), (t1_2 : List ((Int × Int × Int × Unit))), ⟨⟩⟩ y hP H hw
  obtain ⟨z, H1, rfl⟩ := map_out H
  replace H : MatTrue t0_1 t1_2 = some z := H1
  clear hw H1
  unfold MatTrue at H
  refine tr_keep [0, 1] (σ' := mkSl 148 0 [(0, .val (.int .i64) .n t0_1), (1, .val (.list (.st [.int .i64, .int .i64, .int .i64])) .n t1_2)]) rfl ?_
  refine tr_seq ?_
  refine tr_rg hP tabOk hsp fun A hA M hM => ?_
  cbv
  refine hM _ ?_
  refine tr_seq ?_
  refine tr_seq ?_
  refine tr_keep [0, 1] (σ' := mkSl 148 0 [(0, .val (.int .i64) .n t0_1), (1, .val (.list (.st [.int .i64, .int .i64, .int .i64])) .n t1_2)]) (by subst hA; rfl) ?_
  clear hM hA M A
  refine tr_rg hP tabOk hsp fun A hA M hM => ?_
  cbv
  obtain ⟨r_3, hr1, H⟩ := bind_out H
  obtain ⟨pq1, eq1⟩ := hc11 hr1
  refine ⟨by subst hA; subst eq1; exact pq1, hM _ ?_⟩
  refine tr_seq ?_
  refine tr_keep [0, 1, 5, 8] (σ' := mkSl 148 0 [(0, .val (.int .i64) .n t0_1), (1, .val (.list (.st [.int .i64, .int .i64, .int .i64])) .n t1_2), (5, .val (.list (.st [.int .i64, .int .i64, .arr 6 (.arr 6 (.int .i64))])) (.l .n) r_3.1), (8, .val (.bool) .n r_3.2.2.2)]) (by subst hA; subst eq1; rfl) ?_
  clear pq1 eq1 hr1 hM hA M A
  refine tr_rg hP tabOk hsp fun A hA M hM => ?_
  cbv
  obtain ⟨ob1, H⟩ := ck_out H
  obtain ⟨ob2, H⟩ := ck_out H
  obtain ⟨ob3, H⟩ := ck_out H
  obtain ⟨ob4, H⟩ := ck_out H
  obtain ⟨ob5, H⟩ := ck_out H
  obtain ⟨ob6, H⟩ := ck_out H
  refine ⟨by subst hA; exact ob1, by subst hA; exact ob2, by subst hA; exact ob3, by subst hA; exact ob4, by subst hA; exact ob5, by subst hA; exact ob6, hM _ ?_⟩
  refine tr_keep [0, 1, 48] (σ' := mkSl 148 0 [(0, .val (.int .i64) .n t0_1), (1, .val (.list (.st [.int .i64, .int .i64, .int .i64])) .n t1_2), (48, .val (.bool) .n (((!r_3.2.2.2) || (((((r_3.1.getD 0 ((0 : Int), (0 : Int), List.replicate 6 (List.replicate 6 (0 : Int)), ())).2.2.1).getD 1 (List.replicate 6 (0 : Int))).getD 0 (0 : Int)) != (1 : Int))) || (((((r_3.1.getD 1 ((0 : Int), (0 : Int), List.replicate 6 (List.replicate 6 (0 : Int)), ())).2.2.1).getD 1 (List.replicate 6 (0 : Int))).getD 0 (0 : Int)) != (1 : Int))))]) (by subst hA; rfl) ?_
  clear ob6 ob5 ob4 ob3 ob2 ob1 hM hA M A
  refine tr_cond rfl (fun hc => ?_) (fun hc => ?_)
  · replace H := if_t H hc
    refine tr_keep [0, 1] (σ' := mkSl 148 0 [(0, .val (.int .i64) .n t0_1), (1, .val (.list (.st [.int .i64, .int .i64, .int .i64])) .n t1_2)]) rfl ?_
    refine tr_seq ?_
    refine tr_rg hP tabOk hsp fun A hA M hM => ?_
    cbv
    refine hM _ ?_
    refine tr_ret ?_
    have hr := Option.some.inj H
    subst hr
    subst hA
    exact rfl
  · replace H := if_f H hc
    refine tr_keep [0, 1] (σ' := mkSl 148 0 [(0, .val (.int .i64) .n t0_1), (1, .val (.list (.st [.int .i64, .int .i64, .int .i64])) .n t1_2)]) rfl ?_
    refine tr_skip ?_
    refine tr_seq ?_
    refine tr_rg hP tabOk hsp fun A hA M hM => ?_
    cbv
    obtain ⟨r_4, hr1, H⟩ := bind_out H
    obtain ⟨pq1, eq1⟩ := hc12 hr1
    refine ⟨by subst hA; subst eq1; exact pq1, hM _ ?_⟩
    refine tr_seq ?_
    refine tr_keep [0, 1] (σ' := mkSl 148 0 [(0, .val (.int .i64) .n r_4), (1, .val (.list (.st [.int .i64, .int .i64, .int .i64])) .n t1_2)]) (by subst hA; subst eq1; rfl) ?_
    clear pq1 eq1 hr1 hM hA M A
    refine tr_rg hP tabOk hsp fun A hA M hM => ?_
    cbv
    obtain ⟨r_5, hr1, H⟩ := bind_out H
    obtain ⟨pq1, eq1⟩ := hc11 hr1
    refine ⟨by subst hA; subst eq1; exact pq1, hM _ ?_⟩
    refine tr_seq ?_
    refine tr_seq ?_
    refine tr_keep [0, 9, 10, 11, 12] (σ' := mkSl 148 0 [(0, .val (.int .i64) .n r_4), (9, .val (.list (.st [.int .i64, .int .i64, .arr 6 (.arr 6 (.int .i64))])) (.l .n) r_5.1), (10, .val (.list (.int .i64)) (.l .n) r_5.2.1), (11, .val (.list (.list (.int .i64))) (.l (.l .n)) r_5.2.2.1), (12, .val (.bool) .n r_5.2.2.2)]) (by subst hA; subst eq1; rfl) ?_
    clear pq1 eq1 hr1 hM hA M A
    refine tr_rg hP tabOk hsp fun A hA M hM => ?_
    cbv
    refine hM _ ?_
    refine tr_keep [0, 9, 10, 11, 60] (σ' := mkSl 148 0 [(0, .val (.int .i64) .n r_4), (9, .val (.list (.st [.int .i64, .int .i64, .arr 6 (.arr 6 (.int .i64))])) (.l .n) r_5.1), (10, .val (.list (.int .i64)) (.l .n) r_5.2.1), (11, .val (.list (.list (.int .i64))) (.l (.l .n)) r_5.2.2.1), (60, .val (.bool) .n (!r_5.2.2.2))]) (by subst hA; rfl) ?_
    clear hM hA M A
    refine tr_cond rfl (fun hc => ?_) (fun hc => ?_)
    · replace H := if_t H hc
      refine tr_keep [0, 9, 10, 11] (σ' := mkSl 148 0 [(0, .val (.int .i64) .n r_4), (9, .val (.list (.st [.int .i64, .int .i64, .arr 6 (.arr 6 (.int .i64))])) (.l .n) r_5.1), (10, .val (.list (.int .i64)) (.l .n) r_5.2.1), (11, .val (.list (.list (.int .i64))) (.l (.l .n)) r_5.2.2.1)]) rfl ?_
      refine tr_seq ?_
      refine tr_rg hP tabOk hsp fun A hA M hM => ?_
      cbv
      refine hM _ ?_
      refine tr_ret ?_
      have hr := Option.some.inj H
      subst hr
      subst hA
      exact rfl
    · replace H := if_f H hc
      refine tr_keep [0, 9, 10, 11] (σ' := mkSl 148 0 [(0, .val (.int .i64) .n r_4), (9, .val (.list (.st [.int .i64, .int .i64, .arr 6 (.arr 6 (.int .i64))])) (.l .n) r_5.1), (10, .val (.list (.int .i64)) (.l .n) r_5.2.1), (11, .val (.list (.list (.int .i64))) (.l (.l .n)) r_5.2.2.1)]) rfl ?_
      refine tr_skip ?_
      refine tr_seq ?_
      refine tr_seq ?_
      refine tr_rg hP tabOk hsp fun A hA M hM => ?_
      cbv
      refine hM _ ?_
      refine tr_block ?_
      refine tr_keepL [0, 9, 10, 11, 61, 62, 63] (fun t62_6 : Int => mkSl 148 0 [(0, .val (.int .i64) .n r_4), (9, .val (.list (.st [.int .i64, .int .i64, .arr 6 (.arr 6 (.int .i64))])) (.l .n) r_5.1), (10, .val (.list (.int .i64)) (.l .n) r_5.2.1), (11, .val (.list (.list (.int .i64))) (.l (.l .n)) r_5.2.2.1), (61, .bor 9 []), (62, .val (.int .i64) .n t62_6), (63, .val (.int .i64) .n (0 : Int))]) H (by subst hA; rfl) (fun t62_6 H => ?_)
      clear hM hA M A
      obtain ⟨q, hq, Hl, Hr⟩ := bindE_out H
      refine tr_loopE 0 (fun x : Int => MatTrue_L1 r_4 r_5 t62_6 x) (fun x : Int => mkSl 148 0 [(0, .val (.int .i64) .n r_4), (9, .val (.list (.st [.int .i64, .int .i64, .arr 6 (.arr 6 (.int .i64))])) (.l .n) r_5.1), (10, .val (.list (.int .i64)) (.l .n) r_5.2.1), (11, .val (.list (.list (.int .i64))) (.l (.l .n)) r_5.2.2.1), (61, .bor 9 []), (62, .val (.int .i64) .n t62_6), (63, .val (.int .i64) .n x)]) [0, 9, 10, 11, 61, 62, 63] (fun q_8 : Unit => mkSl 148 0 []) [] hq rfl Hr (fun q_8 hl σ' h => ?_) (fun x r1 H => ?_)
      · replace H := Hl q_8 hl
        refine tr_keep [] h ?_
        refine tr_seq ?_
        refine tr_rg hP tabOk hsp fun A hA M hM => ?_
        cbv
        refine hM _ ?_
        refine tr_ret ?_
        have hr := Option.some.inj H
        subst hr
        subst hA
        exact rfl
      · obtain ⟨t63_7, rfl⟩ : ∃ v, v = x := ⟨x, rfl⟩
        replace H : MatTrue_L1 r_4 r_5 t62_6 t63_7 = some r1 := H
        unfold MatTrue_L1 at H
        refine tr_seq ?_
        refine tr_rg hP tabOk hsp fun A hA M hM => ?_
        cbv
        refine hM _ ?_
        refine tr_seq ?_
        refine tr_keep [0, 9, 10, 11, 61, 62, 63, 64] (σ' := mkSl 148 0 [(0, .val (.int .i64) .n r_4), (9, .val (.list (.st [.int .i64, .int .i64, .arr 6 (.arr 6 (.int .i64))])) (.l .n) r_5.1), (10, .val (.list (.int .i64)) (.l .n) r_5.2.1), (11, .val (.list (.list (.int .i64))) (.l (.l .n)) r_5.2.2.1), (61, .bor 9 []), (62, .val (.int .i64) .n t62_6), (63, .val (.int .i64) .n t63_7), (64, .val (.bool) .n (decide (t63_7 < t62_6)))]) (by subst hA; rfl) ?_
        clear hM hA M A
        refine tr_cond rfl (fun hc => ?_) (fun hc => ?_)
        · replace H := if_t H hc
          refine tr_keep [0, 9, 10, 11, 61, 62, 63] (σ' := mkSl 148 0 [(0, .val (.int .i64) .n r_4), (9, .val (.list (.st [.int .i64, .int .i64, .arr 6 (.arr 6 (.int .i64))])) (.l .n) r_5.1), (10, .val (.list (.int .i64)) (.l .n) r_5.2.1), (11, .val (.list (.list (.int .i64))) (.l (.l .n)) r_5.2.2.1), (61, .bor 9 []), (62, .val (.int .i64) .n t62_6), (63, .val (.int .i64) .n t63_7)]) rfl ?_
          refine tr_skip ?_
          refine tr_seq ?_
          refine tr_block ?_
          refine tr_seq ?_
          refine tr_rg hP tabOk hsp fun A hA M hM => ?_
          cbv
          obtain ⟨ob1, H⟩ := ck_out H
          refine ⟨by subst hA; exact ob1, hM _ ?_⟩
          refine tr_seq ?_
          refine tr_keepL [0, 9, 10, 11, 13, 14, 61, 62, 63] (fun t14_9 : (Int × Int × List (List Int) × Unit) => mkSl 148 0 [(0, .val (.int .i64) .n r_4), (9, .val (.list (.st [.int .i64, .int .i64, .arr 6 (.arr 6 (.int .i64))])) (.l .n) r_5.1), (10, .val (.list (.int .i64)) (.l .n) r_5.2.1), (11, .val (.list (.list (.int .i64))) (.l (.l .n)) r_5.2.2.1), (13, .val (.int .i64) .n t63_7), (14, .val (.box (.st [.int .i64, .int .i64, .arr 6 (.arr 6 (.int .i64))])) (.b .n) t14_9), (61, .bor 9 []), (62, .val (.int .i64) .n t62_6), (63, .val (.int .i64) .n t63_7)]) H (by subst hA; rfl) (fun t14_9 H => ?_)
          clear ob1 hM hA M A
          refine tr_rg hP tabOk hsp fun A hA M hM => ?_
          cbv
          obtain ⟨r_10, hr1, H⟩ := bind_out H
          obtain ⟨pq1, eq1⟩ := hc9 hr1
          refine ⟨by subst hA; subst eq1; exact pq1, hM _ ?_⟩
          refine tr_seq ?_
          refine tr_seq ?_
          refine tr_keep [0, 9, 10, 11, 13, 14, 15, 16, 61, 62, 63] (σ' := mkSl 148 0 [(0, .val (.int .i64) .n r_4), (9, .val (.list (.st [.int .i64, .int .i64, .arr 6 (.arr 6 (.int .i64))])) (.l .n) r_5.1), (10, .val (.list (.int .i64)) (.l .n) r_5.2.1), (11, .val (.list (.list (.int .i64))) (.l (.l .n)) r_5.2.2.1), (13, .val (.int .i64) .n t63_7), (14, .val (.box (.st [.int .i64, .int .i64, .arr 6 (.arr 6 (.int .i64))])) (.b .n) t14_9), (15, .val (.box (.arr 6 (.int .i64))) (.b .n) r_10.1), (16, .val (.int .i64) .n r_10.2), (61, .bor 9 []), (62, .val (.int .i64) .n t62_6), (63, .val (.int .i64) .n t63_7)]) (by subst hA; subst eq1; rfl) ?_
          clear pq1 eq1 hr1 hM hA M A
          refine tr_rg hP tabOk hsp fun A hA M hM => ?_
          cbv
          obtain ⟨r_11, er1, H⟩ := letO_out H
          obtain ⟨ob1, H⟩ := ck_out H
          have eq1 := er1.trans hd13
          refine ⟨by subst hA; subst eq1; exact fun h0 => hi13 (ob1 h0), hM _ ?_⟩
          refine tr_keep [0, 9, 10, 11, 13, 14, 15, 61, 62, 63, 79] (σ' := mkSl 148 0 [(0, .val (.int .i64) .n r_4), (9, .val (.list (.st [.int .i64, .int .i64, .arr 6 (.arr 6 (.int .i64))])) (.l .n) r_5.1), (10, .val (.list (.int .i64)) (.l .n) r_5.2.1), (11, .val (.list (.list (.int .i64))) (.l (.l .n)) r_5.2.2.1), (13, .val (.int .i64) .n t63_7), (14, .val (.box (.st [.int .i64, .int .i64, .arr 6 (.arr 6 (.int .i64))])) (.b .n) t14_9), (15, .val (.box (.arr 6 (.int .i64))) (.b .n) r_10.1), (61, .bor 9 []), (62, .val (.int .i64) .n t62_6), (63, .val (.int .i64) .n t63_7), (79, .val (.bool) .n ((r_10.2 != (0 : Int)) || (r_11 != (0 : Int))))]) (by subst hA; subst eq1; rfl) ?_
          clear ob1 eq1 er1 hM hA M A
          refine tr_cond rfl (fun hc => ?_) (fun hc => ?_)
          · replace H := if_t H hc
            refine tr_keep [0, 9, 10, 11, 13, 14, 15, 61, 62, 63] (σ' := mkSl 148 0 [(0, .val (.int .i64) .n r_4), (9, .val (.list (.st [.int .i64, .int .i64, .arr 6 (.arr 6 (.int .i64))])) (.l .n) r_5.1), (10, .val (.list (.int .i64)) (.l .n) r_5.2.1), (11, .val (.list (.list (.int .i64))) (.l (.l .n)) r_5.2.2.1), (13, .val (.int .i64) .n t63_7), (14, .val (.box (.st [.int .i64, .int .i64, .arr 6 (.arr 6 (.int .i64))])) (.b .n) t14_9), (15, .val (.box (.arr 6 (.int .i64))) (.b .n) r_10.1), (61, .bor 9 []), (62, .val (.int .i64) .n t62_6), (63, .val (.int .i64) .n t63_7)]) rfl ?_
            refine tr_seq ?_
            refine tr_rg hP tabOk hsp fun A hA M hM => ?_
            cbv
            refine hM _ ?_
            refine tr_ret ?_
            have hr := Option.some.inj H
            refine Exists.intro _ (And.intro hr.symm (fun hr => ?_))
            subst hr
            subst hA
            exact rfl
          · replace H := if_f H hc
            refine tr_keep [0, 9, 10, 11, 13, 14, 15, 61, 62, 63] (σ' := mkSl 148 0 [(0, .val (.int .i64) .n r_4), (9, .val (.list (.st [.int .i64, .int .i64, .arr 6 (.arr 6 (.int .i64))])) (.l .n) r_5.1), (10, .val (.list (.int .i64)) (.l .n) r_5.2.1), (11, .val (.list (.list (.int .i64))) (.l (.l .n)) r_5.2.2.1), (13, .val (.int .i64) .n t63_7), (14, .val (.box (.st [.int .i64, .int .i64, .arr 6 (.arr 6 (.int .i64))])) (.b .n) t14_9), (15, .val (.box (.arr 6 (.int .i64))) (.b .n) r_10.1), (61, .bor 9 []), (62, .val (.int .i64) .n t62_6), (63, .val (.int .i64) .n t63_7)]) rfl ?_
            refine tr_skip ?_
            refine tr_seq ?_
            refine tr_rg hP tabOk hsp fun A hA M hM => ?_
            cbv
            refine hM _ ?_
            refine tr_block ?_
            refine tr_keep [0, 9, 10, 11, 13, 14, 15, 61, 62, 63, 80, 81] (σ' := mkSl 148 0 [(0, .val (.int .i64) .n r_4), (9, .val (.list (.st [.int .i64, .int .i64, .arr 6 (.arr 6 (.int .i64))])) (.l .n) r_5.1), (10, .val (.list (.int .i64)) (.l .n) r_5.2.1), (11, .val (.list (.list (.int .i64))) (.l (.l .n)) r_5.2.2.1), (13, .val (.int .i64) .n t63_7), (14, .val (.box (.st [.int .i64, .int .i64, .arr 6 (.arr 6 (.int .i64))])) (.b .n) t14_9), (15, .val (.box (.arr 6 (.int .i64))) (.b .n) r_10.1), (61, .bor 9 []), (62, .val (.int .i64) .n t62_6), (63, .val (.int .i64) .n t63_7), (80, .val (.int .i64) .n r_4), (81, .val (.int .i64) .n (0 : Int))]) (by subst hA; rfl) ?_
            clear hM hA M A
            obtain ⟨q, hq, Hl, Hr⟩ := bindE_out H
            refine tr_loopE 2 (fun x : Int => MatTrue_L2 r_4 r_5 t63_7 t14_9 r_10 x) (fun x : Int => mkSl 148 0 [(0, .val (.int .i64) .n r_4), (9, .val (.list (.st [.int .i64, .int .i64, .arr 6 (.arr 6 (.int .i64))])) (.l .n) r_5.1), (10, .val (.list (.int .i64)) (.l .n) r_5.2.1), (11, .val (.list (.list (.int .i64))) (.l (.l .n)) r_5.2.2.1), (13, .val (.int .i64) .n t63_7), (14, .val (.box (.st [.int .i64, .int .i64, .arr 6 (.arr 6 (.int .i64))])) (.b .n) t14_9), (15, .val (.box (.arr 6 (.int .i64))) (.b .n) r_10.1), (61, .bor 9 []), (62, .val (.int .i64) .n t62_6), (63, .val (.int .i64) .n t63_7), (80, .val (.int .i64) .n r_4), (81, .val (.int .i64) .n x)]) [0, 9, 10, 11, 13, 14, 15, 61, 62, 63, 80, 81] (fun q_13 : Unit => mkSl 148 0 [(0, .val (.int .i64) .n r_4), (9, .val (.list (.st [.int .i64, .int .i64, .arr 6 (.arr 6 (.int .i64))])) (.l .n) r_5.1), (10, .val (.list (.int .i64)) (.l .n) r_5.2.1), (11, .val (.list (.list (.int .i64))) (.l (.l .n)) r_5.2.2.1), (61, .bor 9 []), (62, .val (.int .i64) .n t62_6), (63, .val (.int .i64) .n t63_7)]) [0, 9, 10, 11, 61, 62, 63] hq rfl Hr (fun q_13 hl σ' h => ?_) (fun x r2 H => ?_)
            · replace H := Hl q_13 hl
              refine tr_keep [0, 9, 10, 11, 61, 62, 63] h ?_
              refine tr_rg hP tabOk hsp fun A hA M hM => ?_
              cbv
              refine hM _ ?_
              exact Exists.intro _ (And.intro (Option.some.inj H).symm (by subst hA; rfl))
            · obtain ⟨t81_12, rfl⟩ : ∃ v, v = x := ⟨x, rfl⟩
              replace H : MatTrue_L2 r_4 r_5 t63_7 t14_9 r_10 t81_12 = some r2 := H
              unfold MatTrue_L2 at H
              refine tr_seq ?_
              refine tr_rg hP tabOk hsp fun A hA M hM => ?_
              cbv
              refine hM _ ?_
              refine tr_seq ?_
              refine tr_keep [0, 9, 10, 11, 13, 14, 15, 61, 62, 63, 80, 81, 82] (σ' := mkSl 148 0 [(0, .val (.int .i64) .n r_4), (9, .val (.list (.st [.int .i64, .int .i64, .arr 6 (.arr 6 (.int .i64))])) (.l .n) r_5.1), (10, .val (.list (.int .i64)) (.l .n) r_5.2.1), (11, .val (.list (.list (.int .i64))) (.l (.l .n)) r_5.2.2.1), (13, .val (.int .i64) .n t63_7), (14, .val (.box (.st [.int .i64, .int .i64, .arr 6 (.arr 6 (.int .i64))])) (.b .n) t14_9), (15, .val (.box (.arr 6 (.int .i64))) (.b .n) r_10.1), (61, .bor 9 []), (62, .val (.int .i64) .n t62_6), (63, .val (.int .i64) .n t63_7), (80, .val (.int .i64) .n r_4), (81, .val (.int .i64) .n t81_12), (82, .val (.bool) .n (decide (t81_12 < r_4)))]) (by subst hA; rfl) ?_
              clear hM hA M A
              refine tr_cond rfl (fun hc => ?_) (fun hc => ?_)
              · replace H := if_t H hc
                refine tr_keep [0, 9, 10, 11, 13, 14, 15, 61, 62, 63, 80, 81] (σ' := mkSl 148 0 [(0, .val (.int .i64) .n r_4), (9, .val (.list (.st [.int .i64, .int .i64, .arr 6 (.arr 6 (.int .i64))])) (.l .n) r_5.1), (10, .val (.list (.int .i64)) (.l .n) r_5.2.1), (11, .val (.list (.list (.int .i64))) (.l (.l .n)) r_5.2.2.1), (13, .val (.int .i64) .n t63_7), (14, .val (.box (.st [.int .i64, .int .i64, .arr 6 (.arr 6 (.int .i64))])) (.b .n) t14_9), (15, .val (.box (.arr 6 (.int .i64))) (.b .n) r_10.1), (61, .bor 9 []), (62, .val (.int .i64) .n t62_6), (63, .val (.int .i64) .n t63_7), (80, .val (.int .i64) .n r_4), (81, .val (.int .i64) .n t81_12)]) rfl ?_
                refine tr_skip ?_
                refine tr_seq ?_
                refine tr_block ?_
                refine tr_seq ?_
                refine tr_rg hP tabOk hsp fun A hA M hM => ?_
                cbv
                refine hM _ ?_
                refine tr_seq ?_
                refine tr_keep [0, 9, 10, 11, 13, 14, 15, 17, 61, 62, 63, 80, 81] (σ' := mkSl 148 0 [(0, .val (.int .i64) .n r_4), (9, .val (.list (.st [.int .i64, .int .i64, .arr 6 (.arr 6 (.int .i64))])) (.l .n) r_5.1), (10, .val (.list (.int .i64)) (.l .n) r_5.2.1), (11, .val (.list (.list (.int .i64))) (.l (.l .n)) r_5.2.2.1), (13, .val (.int .i64) .n t63_7), (14, .val (.box (.st [.int .i64, .int .i64, .arr 6 (.arr 6 (.int .i64))])) (.b .n) t14_9), (15, .val (.box (.arr 6 (.int .i64))) (.b .n) r_10.1), (17, .val (.int .i64) .n t81_12), (61, .bor 9 []), (62, .val (.int .i64) .n t62_6), (63, .val (.int .i64) .n t63_7), (80, .val (.int .i64) .n r_4), (81, .val (.int .i64) .n t81_12)]) (by subst hA; rfl) ?_
                clear hM hA M A
                refine tr_rg hP tabOk hsp fun A hA M hM => ?_
                cbv
                refine hM _ ?_
                refine tr_block ?_
                refine tr_keep [0, 9, 10, 11, 13, 14, 15, 17, 61, 62, 63, 80, 81, 84, 85] (σ' := mkSl 148 0 [(0, .val (.int .i64) .n r_4), (9, .val (.list (.st [.int .i64, .int .i64, .arr 6 (.arr 6 (.int .i64))])) (.l .n) r_5.1), (10, .val (.list (.int .i64)) (.l .n) r_5.2.1), (11, .val (.list (.list (.int .i64))) (.l (.l .n)) r_5.2.2.1), (13, .val (.int .i64) .n t63_7), (14, .val (.box (.st [.int .i64, .int .i64, .arr 6 (.arr 6 (.int .i64))])) (.b .n) t14_9), (15, .val (.box (.arr 6 (.int .i64))) (.b .n) r_10.1), (17, .val (.int .i64) .n t81_12), (61, .bor 9 []), (62, .val (.int .i64) .n t62_6), (63, .val (.int .i64) .n t63_7), (80, .val (.int .i64) .n r_4), (81, .val (.int .i64) .n t81_12), (84, .val (.int .i64) .n r_4), (85, .val (.int .i64) .n (0 : Int))]) (by subst hA; rfl) ?_
                clear hM hA M A
                obtain ⟨q, hq, Hl, Hr⟩ := bindE_out H
                refine tr_loopE 4 (fun x : Int => MatTrue_L3 r_4 r_5 t63_7 t14_9 r_10 t81_12 x) (fun x : Int => mkSl 148 0 [(0, .val (.int .i64) .n r_4), (9, .val (.list (.st [.int .i64, .int .i64, .arr 6 (.arr 6 (.int .i64))])) (.l .n) r_5.1), (10, .val (.list (.int .i64)) (.l .n) r_5.2.1), (11, .val (.list (.list (.int .i64))) (.l (.l .n)) r_5.2.2.1), (13, .val (.int .i64) .n t63_7), (14, .val (.box (.st [.int .i64, .int .i64, .arr 6 (.arr 6 (.int .i64))])) (.b .n) t14_9), (15, .val (.box (.arr 6 (.int .i64))) (.b .n) r_10.1), (17, .val (.int .i64) .n t81_12), (61, .bor 9 []), (62, .val (.int .i64) .n t62_6), (63, .val (.int .i64) .n t63_7), (80, .val (.int .i64) .n r_4), (81, .val (.int .i64) .n t81_12), (84, .val (.int .i64) .n r_4), (85, .val (.int .i64) .n x)]) [0, 9, 10, 11, 13, 14, 15, 17, 61, 62, 63, 80, 81, 84, 85] (fun q_15 : Unit => mkSl 148 0 [(0, .val (.int .i64) .n r_4), (9, .val (.list (.st [.int .i64, .int .i64, .arr 6 (.arr 6 (.int .i64))])) (.l .n) r_5.1), (10, .val (.list (.int .i64)) (.l .n) r_5.2.1), (11, .val (.list (.list (.int .i64))) (.l (.l .n)) r_5.2.2.1), (13, .val (.int .i64) .n t63_7), (14, .val (.box (.st [.int .i64, .int .i64, .arr 6 (.arr 6 (.int .i64))])) (.b .n) t14_9), (15, .val (.box (.arr 6 (.int .i64))) (.b .n) r_10.1), (61, .bor 9 []), (62, .val (.int .i64) .n t62_6), (63, .val (.int .i64) .n t63_7), (80, .val (.int .i64) .n r_4), (81, .val (.int .i64) .n t81_12)]) [0, 9, 10, 11, 13, 14, 15, 61, 62, 63, 80, 81] hq rfl Hr (fun q_15 hl σ' h => ?_) (fun x r3 H => ?_)
                · replace H := Hl q_15 hl
                  refine tr_keep [0, 9, 10, 11, 13, 14, 15, 61, 62, 63, 80, 81] h ?_
                  refine tr_rg hP tabOk hsp fun A hA M hM => ?_
                  cbv
                  refine hM _ ?_
                  exact Exists.intro _ (And.intro (Option.some.inj H).symm (by subst hA; rfl))
                · obtain ⟨t85_14, rfl⟩ : ∃ v, v = x := ⟨x, rfl⟩
                  replace H : MatTrue_L3 r_4 r_5 t63_7 t14_9 r_10 t81_12 t85_14 = some r3 := H
                  unfold MatTrue_L3 at H
                  refine tr_seq ?_
                  refine tr_rg hP tabOk hsp fun A hA M hM => ?_
                  cbv
                  refine hM _ ?_
                  refine tr_seq ?_
                  refine tr_keep [0, 9, 10, 11, 13, 14, 15, 17, 61, 62, 63, 80, 81, 84, 85, 86] (σ' := mkSl 148 0 [(0, .val (.int .i64) .n r_4), (9, .val (.list (.st [.int .i64, .int .i64, .arr 6 (.arr 6 (.int .i64))])) (.l .n) r_5.1), (10, .val (.list (.int .i64)) (.l .n) r_5.2.1), (11, .val (.list (.list (.int .i64))) (.l (.l .n)) r_5.2.2.1), (13, .val (.int .i64) .n t63_7), (14, .val (.box (.st [.int .i64, .int .i64, .arr 6 (.arr 6 (.int .i64))])) (.b .n) t14_9), (15, .val (.box (.arr 6 (.int .i64))) (.b .n) r_10.1), (17, .val (.int .i64) .n t81_12), (61, .bor 9 []), (62, .val (.int .i64) .n t62_6), (63, .val (.int .i64) .n t63_7), (80, .val (.int .i64) .n r_4), (81, .val (.int .i64) .n t81_12), (84, .val (.int .i64) .n r_4), (85, .val (.int .i64) .n t85_14), (86, .val (.bool) .n (decide (t85_14 < r_4)))]) (by subst hA; rfl) ?_
                  clear hM hA M A
                  refine tr_cond rfl (fun hc => ?_) (fun hc => ?_)
                  · replace H := if_t H hc
                    refine tr_keep [0, 9, 10, 11, 13, 14, 15, 17, 61, 62, 63, 80, 81, 84, 85] (σ' := mkSl 148 0 [(0, .val (.int .i64) .n r_4), (9, .val (.list (.st [.int .i64, .int .i64, .arr 6 (.arr 6 (.int .i64))])) (.l .n) r_5.1), (10, .val (.list (.int .i64)) (.l .n) r_5.2.1), (11, .val (.list (.list (.int .i64))) (.l (.l .n)) r_5.2.2.1), (13, .val (.int .i64) .n t63_7), (14, .val (.box (.st [.int .i64, .int .i64, .arr 6 (.arr 6 (.int .i64))])) (.b .n) t14_9), (15, .val (.box (.arr 6 (.int .i64))) (.b .n) r_10.1), (17, .val (.int .i64) .n t81_12), (61, .bor 9 []), (62, .val (.int .i64) .n t62_6), (63, .val (.int .i64) .n t63_7), (80, .val (.int .i64) .n r_4), (81, .val (.int .i64) .n t81_12), (84, .val (.int .i64) .n r_4), (85, .val (.int .i64) .n t85_14)]) rfl ?_
                    refine tr_skip ?_
                    refine tr_seq ?_
                    refine tr_block ?_
                    refine tr_seq ?_
                    refine tr_rg hP tabOk hsp fun A hA M hM => ?_
                    cbv
                    refine hM _ ?_
                    refine tr_seq ?_
                    refine tr_keep [0, 9, 10, 11, 13, 14, 15, 17, 18, 61, 62, 63, 80, 81, 84, 85] (σ' := mkSl 148 0 [(0, .val (.int .i64) .n r_4), (9, .val (.list (.st [.int .i64, .int .i64, .arr 6 (.arr 6 (.int .i64))])) (.l .n) r_5.1), (10, .val (.list (.int .i64)) (.l .n) r_5.2.1), (11, .val (.list (.list (.int .i64))) (.l (.l .n)) r_5.2.2.1), (13, .val (.int .i64) .n t63_7), (14, .val (.box (.st [.int .i64, .int .i64, .arr 6 (.arr 6 (.int .i64))])) (.b .n) t14_9), (15, .val (.box (.arr 6 (.int .i64))) (.b .n) r_10.1), (17, .val (.int .i64) .n t81_12), (18, .val (.int .i64) .n t85_14), (61, .bor 9 []), (62, .val (.int .i64) .n t62_6), (63, .val (.int .i64) .n t63_7), (80, .val (.int .i64) .n r_4), (81, .val (.int .i64) .n t81_12), (84, .val (.int .i64) .n r_4), (85, .val (.int .i64) .n t85_14)]) (by subst hA; rfl) ?_
                    clear hM hA M A
                    refine tr_rg hP tabOk hsp fun A hA M hM => ?_
                    cbv
                    obtain ⟨ob1, H⟩ := ck_out H
                    obtain ⟨ob2, H⟩ := ck_out H
                    obtain ⟨ob3, H⟩ := ck_out H
                    obtain ⟨ob4, H⟩ := ck_out H
                    obtain ⟨ob5, H⟩ := ck_out H
                    obtain ⟨ob6, H⟩ := ck_out H
                    obtain ⟨ob7, H⟩ := ck_out H
                    obtain ⟨ob8, H⟩ := ck_out H
                    obtain ⟨ob9, H⟩ := ck_out H
                    obtain ⟨ob10, H⟩ := ck_out H
                    obtain ⟨ob11, H⟩ := ck_out H
                    obtain ⟨ob12, H⟩ := ck_out H
                    obtain ⟨ob13, H⟩ := ck_out H
                    obtain ⟨ob14, H⟩ := ck_out H
                    refine ⟨by subst hA; exact ob1, by subst hA; exact ob2, by subst hA; exact ob3, by subst hA; exact ob4, by subst hA; exact ob5, by subst hA; exact ob6, by subst hA; exact ob7, by subst hA; exact ob8, by subst hA; exact ob9, by subst hA; exact ob10, by subst hA; exact ob11, by subst hA; exact ob12, by subst hA; exact ob13, by subst hA; exact ob14, hM _ ?_⟩
                    refine tr_keep [0, 9, 10, 11, 13, 14, 15, 17, 61, 62, 63, 80, 81, 84, 85, 144] (σ' := mkSl 148 0 [(0, .val (.int .i64) .n r_4), (9, .val (.list (.st [.int .i64, .int .i64, .arr 6 (.arr 6 (.int .i64))])) (.l .n) r_5.1), (10, .val (.list (.int .i64)) (.l .n) r_5.2.1), (11, .val (.list (.list (.int .i64))) (.l (.l .n)) r_5.2.2.1), (13, .val (.int .i64) .n t63_7), (14, .val (.box (.st [.int .i64, .int .i64, .arr 6 (.arr 6 (.int .i64))])) (.b .n) t14_9), (15, .val (.box (.arr 6 (.int .i64))) (.b .n) r_10.1), (17, .val (.int .i64) .n t81_12), (61, .bor 9 []), (62, .val (.int .i64) .n t62_6), (63, .val (.int .i64) .n t63_7), (80, .val (.int .i64) .n r_4), (81, .val (.int .i64) .n t81_12), (84, .val (.int .i64) .n r_4), (85, .val (.int .i64) .n t85_14), (144, .val (.bool) .n ((((decide ((r_10.1.getD t85_14.toNat (0 : Int)) > ((r_5.2.2.1.getD t81_12.toNat ([] : List Int)).getD t85_14.toNat (0 : Int)))) || (decide (((t14_9.2.2.1.getD t81_12.toNat (List.replicate 6 (0 : Int))).getD t85_14.toNat (0 : Int)) > ((r_5.2.2.1.getD t81_12.toNat ([] : List Int)).getD t85_14.toNat (0 : Int))))) || (((t14_9.2.2.1.getD t63_7.toNat (List.replicate 6 (0 : Int))).getD t85_14.toNat (0 : Int)) != ((r_5.2.2.1.getD t63_7.toNat ([] : List Int)).getD t85_14.toNat (0 : Int)))) || (decide (((r_5.2.2.1.getD t63_7.toNat ([] : List Int)).getD t85_14.toNat (0 : Int)) > (r_5.2.1.getD t85_14.toNat (0 : Int))))))]) (by subst hA; rfl) ?_
                    clear ob14 ob13 ob12 ob11 ob10 ob9 ob8 ob7 ob6 ob5 ob4 ob3 ob2 ob1 hM hA M A
                    refine tr_cond rfl (fun hc => ?_) (fun hc => ?_)
                    · replace H := if_t H hc
                      refine tr_keep [0, 9, 10, 11, 13, 14, 15, 17, 61, 62, 63, 80, 81, 84, 85] (σ' := mkSl 148 0 [(0, .val (.int .i64) .n r_4), (9, .val (.list (.st [.int .i64, .int .i64, .arr 6 (.arr 6 (.int .i64))])) (.l .n) r_5.1), (10, .val (.list (.int .i64)) (.l .n) r_5.2.1), (11, .val (.list (.list (.int .i64))) (.l (.l .n)) r_5.2.2.1), (13, .val (.int .i64) .n t63_7), (14, .val (.box (.st [.int .i64, .int .i64, .arr 6 (.arr 6 (.int .i64))])) (.b .n) t14_9), (15, .val (.box (.arr 6 (.int .i64))) (.b .n) r_10.1), (17, .val (.int .i64) .n t81_12), (61, .bor 9 []), (62, .val (.int .i64) .n t62_6), (63, .val (.int .i64) .n t63_7), (80, .val (.int .i64) .n r_4), (81, .val (.int .i64) .n t81_12), (84, .val (.int .i64) .n r_4), (85, .val (.int .i64) .n t85_14)]) rfl ?_
                      refine tr_seq ?_
                      refine tr_rg hP tabOk hsp fun A hA M hM => ?_
                      cbv
                      refine hM _ ?_
                      refine tr_ret ?_
                      have hr := Option.some.inj H
                      refine Exists.intro _ (And.intro hr.symm (fun hr => ?_))
                      refine Exists.intro _ (And.intro hr.symm (fun hr => ?_))
                      refine Exists.intro _ (And.intro hr.symm (fun hr => ?_))
                      subst hr
                      subst hA
                      exact rfl
                    · replace H := if_f H hc
                      refine tr_keep [0, 9, 10, 11, 13, 14, 15, 17, 61, 62, 63, 80, 81, 84, 85] (σ' := mkSl 148 0 [(0, .val (.int .i64) .n r_4), (9, .val (.list (.st [.int .i64, .int .i64, .arr 6 (.arr 6 (.int .i64))])) (.l .n) r_5.1), (10, .val (.list (.int .i64)) (.l .n) r_5.2.1), (11, .val (.list (.list (.int .i64))) (.l (.l .n)) r_5.2.2.1), (13, .val (.int .i64) .n t63_7), (14, .val (.box (.st [.int .i64, .int .i64, .arr 6 (.arr 6 (.int .i64))])) (.b .n) t14_9), (15, .val (.box (.arr 6 (.int .i64))) (.b .n) r_10.1), (17, .val (.int .i64) .n t81_12), (61, .bor 9 []), (62, .val (.int .i64) .n t62_6), (63, .val (.int .i64) .n t63_7), (80, .val (.int .i64) .n r_4), (81, .val (.int .i64) .n t81_12), (84, .val (.int .i64) .n r_4), (85, .val (.int .i64) .n t85_14)]) rfl ?_
                      refine tr_skip ?_
                      refine tr_rg hP tabOk hsp fun A hA M hM => ?_
                      cbv
                      refine hM _ ?_
                      exact Exists.intro _ (And.intro (Option.some.inj H).symm (by subst hA; rfl))
                  · replace H := if_f H hc
                    refine tr_keep [0, 9, 10, 11, 13, 14, 15, 17, 61, 62, 63, 80, 81, 84, 85] (σ' := mkSl 148 0 [(0, .val (.int .i64) .n r_4), (9, .val (.list (.st [.int .i64, .int .i64, .arr 6 (.arr 6 (.int .i64))])) (.l .n) r_5.1), (10, .val (.list (.int .i64)) (.l .n) r_5.2.1), (11, .val (.list (.list (.int .i64))) (.l (.l .n)) r_5.2.2.1), (13, .val (.int .i64) .n t63_7), (14, .val (.box (.st [.int .i64, .int .i64, .arr 6 (.arr 6 (.int .i64))])) (.b .n) t14_9), (15, .val (.box (.arr 6 (.int .i64))) (.b .n) r_10.1), (17, .val (.int .i64) .n t81_12), (61, .bor 9 []), (62, .val (.int .i64) .n t62_6), (63, .val (.int .i64) .n t63_7), (80, .val (.int .i64) .n r_4), (81, .val (.int .i64) .n t81_12), (84, .val (.int .i64) .n r_4), (85, .val (.int .i64) .n t85_14)]) rfl ?_
                    refine tr_exit ?_
                    exact And.intro rfl (Exists.intro _ (And.intro (Option.some.inj H).symm (by rfl)))
              · replace H := if_f H hc
                refine tr_keep [0, 9, 10, 11, 13, 14, 15, 61, 62, 63, 80, 81] (σ' := mkSl 148 0 [(0, .val (.int .i64) .n r_4), (9, .val (.list (.st [.int .i64, .int .i64, .arr 6 (.arr 6 (.int .i64))])) (.l .n) r_5.1), (10, .val (.list (.int .i64)) (.l .n) r_5.2.1), (11, .val (.list (.list (.int .i64))) (.l (.l .n)) r_5.2.2.1), (13, .val (.int .i64) .n t63_7), (14, .val (.box (.st [.int .i64, .int .i64, .arr 6 (.arr 6 (.int .i64))])) (.b .n) t14_9), (15, .val (.box (.arr 6 (.int .i64))) (.b .n) r_10.1), (61, .bor 9 []), (62, .val (.int .i64) .n t62_6), (63, .val (.int .i64) .n t63_7), (80, .val (.int .i64) .n r_4), (81, .val (.int .i64) .n t81_12)]) rfl ?_
                refine tr_exit ?_
                exact And.intro rfl (Exists.intro _ (And.intro (Option.some.inj H).symm (by rfl)))
        · replace H := if_f H hc
          refine tr_keep [0, 9, 10, 11, 61, 62, 63] (σ' := mkSl 148 0 [(0, .val (.int .i64) .n r_4), (9, .val (.list (.st [.int .i64, .int .i64, .arr 6 (.arr 6 (.int .i64))])) (.l .n) r_5.1), (10, .val (.list (.int .i64)) (.l .n) r_5.2.1), (11, .val (.list (.list (.int .i64))) (.l (.l .n)) r_5.2.2.1), (61, .bor 9 []), (62, .val (.int .i64) .n t62_6), (63, .val (.int .i64) .n t63_7)]) rfl ?_
          refine tr_exit ?_
          exact And.intro rfl (Exists.intro _ (And.intro (Option.some.inj H).symm (by rfl)))
theorem MatTrue_sp : ∃ (pg : PT.denL [.int .i64, .list (.st [.int .i64, .int .i64, .int .i64])] → Prop) (fg : PT.denL [.int .i64, .list (.st [.int .i64, .int .i64, .int .i64])] → PT.denL [.bool]), SpecRuns Try.prog 4 ⟨[.int .i64, .list (.st [.int .i64, .int .i64, .int .i64])], [.v, .v], [.bool], [.n], pg, fg⟩ ∧ (∀ {a1 : Int} {a2 : List ((Int × Int × Int × Unit))} {y : Bool}, MatTrue a1 a2 = some y → pg (a1, a2, ()) ∧ y = (fg (a1, a2, ())).1) ∧ (∀ {a1 : Int} {a2 : List ((Int × Int × Int × Unit))}, (MatTrue a1 a2).isSome = true → pg (a1, a2, ())) ∧ ∀ {a1 : Int} {a2 : List ((Int × Int × Int × Unit))}, (MatTrue a1 a2).getD false = (fg (a1, a2, ())).1 := by
  obtain ⟨pg, fg, h, hc, hi, hd⟩ := spec_hide MatTrue_runs
  refine ⟨pg, fg, h, ?_, ?_, ?_⟩
  · intro a1 a2 y e
    obtain ⟨h1, h2⟩ := hc (a1, a2, ()) (y, ()) (congrArg (Option.map fun r => (r, ())) e)
    exact ⟨h1, by first | (rw [h2]; done) | (rw [h2]; rfl)⟩
  · intro a1 a2
    intro e
    exact hi (a1, a2, ()) (map_isSome e)
  · intro a1 a2
    rw [hd (a1, a2, ())]
    cases MatTrue a1 a2 <;> rfl
end Go.Proofs.Ytikbileeohddjaa.Mt
