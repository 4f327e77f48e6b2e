/- Functions of the program as functions that may fail, and that the code computes them (printed). Each theorem bears its conditions itself. -/
import Derived.Test.YtikbileeohddjaaMtDefs
import Derived.Test.YtikbileeohddjaaMtTab
import Derived.Test.YtikbileeohddjaaMtQknowing
import Derived.Test.YtikbileeohddjaaMtQfew
import Derived.Test.YtikbileeohddjaaMtQslicesQCloneQLpartkeepQKnowQpartkeepQKnow
import Derived.Test.YtikbileeohddjaaMtQmatQFirm
open Go Go.Proofs.Ytikbileeohddjaa.Sy Go.Proofs
set_option maxHeartbeats 4000000
set_option maxRecDepth 100000
set_option cbv.maxSteps 10000000
set_option linter.unusedVariables false
set_option linter.unusedSimpArgs false
namespace Go.Proofs.Ytikbileeohddjaa.Mt
theorem MatAll_runs : SpecRuns Try.prog 6 (oSpec [.int .i64, .list (.st [.int .i64, .int .i64, .int .i64])] [.v, .v] [.bool] [.n] fun x => (MatAll x.1 x.2.1).map fun r => (r, ())) := by
  obtain ⟨pg11, fg11, hs11, hc11, hi11, hd11⟩ := knowing_sp
  obtain ⟨pg12, fg12, hs12, hc12, hi12, hd12⟩ := few_sp
  obtain ⟨pg15, fg15, hs15, hc15, hi15, hd15⟩ := slices_Clone_Lpartkeep_Know_partkeep_Know_sp
  obtain ⟨pg9, fg9, hs9, hc9, hi9, hd9⟩ := mat_Firm_sp
  have hsp : SpecsOk Try.prog [(11, ⟨[.int .i64, .list (.st [.int .i64, .int .i64, .int .i64])], [.v, .v], [.list (.st [.int .i64, .int .i64, .arr 6 (.arr 6 (.int .i64))]), .list (.int .i64), .list (.list (.int .i64)), .bool], [.l .n, .l .n, .l (.l .n), .n], pg11, fg11⟩), (12, ⟨[.int .i64], [.v], [.int .i64], [.n], pg12, fg12⟩), (15, ⟨[.list (.st [.int .i64, .int .i64, .int .i64])], [.v], [.list (.st [.int .i64, .int .i64, .int .i64])], [.l .n], pg15, fg15⟩), (9, ⟨[.st [.int .i64, .int .i64, .arr 6 (.arr 6 (.int .i64))]], [.v], [.arr 6 (.int .i64), .int .i64], [.n, .n], pg9, fg9⟩)] := (specsOk_cons Try.func11 (by kernel_rfl) (by kernel_rfl) hs11 (specsOk_cons Try.func12 (by kernel_rfl) (by kernel_rfl) hs12 (specsOk_cons Try.func15 (by kernel_rfl) (by kernel_rfl) hs15 (specsOk_cons Try.func9 (by kernel_rfl) (by kernel_rfl) hs9 specsOk_nil))))
  refine runs_of_o tabOk Try.func6 rfl (Nat.le_of_ble_eq_true rfl) rfl ?_
  rintro E ⟨(t0_1 : Int), (t1_2 : List ((Int × Int × Int × Unit))), ⟨⟩⟩ y hP H hw
  obtain ⟨z, H1, rfl⟩ := map_out H
  replace H : MatAll t0_1 t1_2 = some z := H1
  clear hw H1
  unfold MatAll at H
  refine tr_keep [0, 1] (σ' := mkSl 104 0 [(0, .val (.int .i64) .n t0_1), (1, .val (.list (.st [.int .i64, .int .i64, .int .i64])) .n t1_2)]) rfl ?_
  refine tr_seq ?_
  refine tr_rg hP tabOk hsp fun A hA M hM => ?_
  cbv
  refine hM _ ?_
  refine tr_seq ?_
  refine tr_seq ?_
  refine tr_keep [0, 1] (σ' := mkSl 104 0 [(0, .val (.int .i64) .n t0_1), (1, .val (.list (.st [.int .i64, .int .i64, .int .i64])) .n t1_2)]) (by subst hA; rfl) ?_
  clear hM hA M A
  refine tr_rg hP tabOk hsp fun A hA M hM => ?_
  cbv
  obtain ⟨r_3, hr1, H⟩ := bind_out H
  obtain ⟨pq1, eq1⟩ := hc11 hr1
  refine ⟨by subst hA; subst eq1; exact pq1, hM _ ?_⟩
  refine tr_seq ?_
  refine tr_keep [0, 1, 5, 8] (σ' := mkSl 104 0 [(0, .val (.int .i64) .n t0_1), (1, .val (.list (.st [.int .i64, .int .i64, .int .i64])) .n t1_2), (5, .val (.list (.st [.int .i64, .int .i64, .arr 6 (.arr 6 (.int .i64))])) (.l .n) r_3.1), (8, .val (.bool) .n r_3.2.2.2)]) (by subst hA; subst eq1; rfl) ?_
  clear pq1 eq1 hr1 hM hA M A
  refine tr_rg hP tabOk hsp fun A hA M hM => ?_
  cbv
  obtain ⟨ob1, H⟩ := ck_out H
  obtain ⟨ob2, H⟩ := ck_out H
  obtain ⟨ob3, H⟩ := ck_out H
  refine ⟨by subst hA; exact ob1, by subst hA; exact ob2, by subst hA; exact ob3, hM _ ?_⟩
  refine tr_keep [0, 1, 39] (σ' := mkSl 104 0 [(0, .val (.int .i64) .n t0_1), (1, .val (.list (.st [.int .i64, .int .i64, .int .i64])) .n t1_2), (39, .val (.bool) .n ((!r_3.2.2.2) || (((((r_3.1.getD 0 ((0 : Int), (0 : Int), List.replicate 6 (List.replicate 6 (0 : Int)), ())).2.2.1).getD 0 (List.replicate 6 (0 : Int))).getD 0 (0 : Int)) != (1 : Int))))]) (by subst hA; rfl) ?_
  clear ob3 ob2 ob1 hM hA M A
  refine tr_cond rfl (fun hc => ?_) (fun hc => ?_)
  · replace H := if_t H hc
    refine tr_keep [0, 1] (σ' := mkSl 104 0 [(0, .val (.int .i64) .n t0_1), (1, .val (.list (.st [.int .i64, .int .i64, .int .i64])) .n t1_2)]) rfl ?_
    refine tr_seq ?_
    refine tr_rg hP tabOk hsp fun A hA M hM => ?_
    cbv
    refine hM _ ?_
    refine tr_ret ?_
    have hr := Option.some.inj H
    subst hr
    subst hA
    exact rfl
  · replace H := if_f H hc
    refine tr_keep [0, 1] (σ' := mkSl 104 0 [(0, .val (.int .i64) .n t0_1), (1, .val (.list (.st [.int .i64, .int .i64, .int .i64])) .n t1_2)]) rfl ?_
    refine tr_skip ?_
    refine tr_seq ?_
    refine tr_rg hP tabOk hsp fun A hA M hM => ?_
    cbv
    obtain ⟨r_4, hr1, H⟩ := bind_out H
    obtain ⟨pq1, eq1⟩ := hc12 hr1
    refine ⟨by subst hA; subst eq1; exact pq1, hM _ ?_⟩
    refine tr_seq ?_
    refine tr_keep [0, 1] (σ' := mkSl 104 0 [(0, .val (.int .i64) .n r_4), (1, .val (.list (.st [.int .i64, .int .i64, .int .i64])) .n t1_2)]) (by subst hA; subst eq1; rfl) ?_
    clear pq1 eq1 hr1 hM hA M A
    refine tr_rg hP tabOk hsp fun A hA M hM => ?_
    cbv
    obtain ⟨r_5, hr1, H⟩ := bind_out H
    obtain ⟨pq1, eq1⟩ := hc15 hr1
    refine ⟨by subst hA; subst eq1; exact pq1, hM _ ?_⟩
    refine tr_seq ?_
    refine tr_seq ?_
    refine tr_keep [0, 9] (σ' := mkSl 104 0 [(0, .val (.int .i64) .n r_4), (9, .val (.list (.st [.int .i64, .int .i64, .int .i64])) (.l .n) r_5)]) (by subst hA; subst eq1; rfl) ?_
    clear pq1 eq1 hr1 hM hA M A
    refine tr_rg hP tabOk hsp fun A hA M hM => ?_
    cbv
    refine hM _ ?_
    refine tr_block ?_
    refine tr_keepL [0, 9, 45, 46] (fun t45_6 : Int => mkSl 104 0 [(0, .val (.int .i64) .n r_4), (9, .val (.list (.st [.int .i64, .int .i64, .int .i64])) (.l .n) r_5), (45, .val (.int .i64) .n t45_6), (46, .val (.int .i64) .n (0 : Int))]) H (by subst hA; rfl) (fun t45_6 H => ?_)
    clear hM hA M A
    obtain ⟨q_10, hq, H⟩ := bind_out H
    refine tr_loopB 0 (fun x : List ((Int × Int × Int × Unit)) × Int => MatAll_L1 r_4 t45_6 x.1 x.2) (fun x : List ((Int × Int × Int × Unit)) × Int => mkSl 104 0 [(0, .val (.int .i64) .n r_4), (9, .val (.list (.st [.int .i64, .int .i64, .int .i64])) (.l .n) x.1), (45, .val (.int .i64) .n t45_6), (46, .val (.int .i64) .n x.2)]) [0, 9, 45, 46] (fun q_10 : List ((Int × Int × Int × Unit)) => mkSl 104 0 [(0, .val (.int .i64) .n r_4), (9, .val (.list (.st [.int .i64, .int .i64, .int .i64])) (.l .n) q_10)]) [0, 9] hq rfl (fun σ' h => ?_) (fun x r1 H => ?_)
    · refine tr_keep [0, 9] h ?_
      refine tr_seq ?_
      refine tr_rg hP tabOk hsp fun A hA M hM => ?_
      cbv
      obtain ⟨r_20, hr1, H⟩ := bind_out H
      obtain ⟨pq1, eq1⟩ := hc11 hr1
      refine ⟨by subst hA; subst eq1; exact pq1, hM _ ?_⟩
      refine tr_seq ?_
      refine tr_seq ?_
      refine tr_keep [0, 12, 13, 15] (σ' := mkSl 104 0 [(0, .val (.int .i64) .n r_4), (12, .val (.list (.st [.int .i64, .int .i64, .arr 6 (.arr 6 (.int .i64))])) (.l .n) r_20.1), (13, .val (.list (.int .i64)) (.l .n) r_20.2.1), (15, .val (.bool) .n r_20.2.2.2)]) (by subst hA; subst eq1; rfl) ?_
      clear pq1 eq1 hr1 hM hA M A
      refine tr_rg hP tabOk hsp fun A hA M hM => ?_
      cbv
      refine hM _ ?_
      refine tr_keep [0, 12, 13, 74] (σ' := mkSl 104 0 [(0, .val (.int .i64) .n r_4), (12, .val (.list (.st [.int .i64, .int .i64, .arr 6 (.arr 6 (.int .i64))])) (.l .n) r_20.1), (13, .val (.list (.int .i64)) (.l .n) r_20.2.1), (74, .val (.bool) .n (!r_20.2.2.2))]) (by subst hA; rfl) ?_
      clear hM hA M A
      refine tr_cond rfl (fun hc => ?_) (fun hc => ?_)
      · replace H := if_t H hc
        refine tr_keep [0, 12, 13] (σ' := mkSl 104 0 [(0, .val (.int .i64) .n r_4), (12, .val (.list (.st [.int .i64, .int .i64, .arr 6 (.arr 6 (.int .i64))])) (.l .n) r_20.1), (13, .val (.list (.int .i64)) (.l .n) r_20.2.1)]) rfl ?_
        refine tr_seq ?_
        refine tr_rg hP tabOk hsp fun A hA M hM => ?_
        cbv
        refine hM _ ?_
        refine tr_ret ?_
        have hr := Option.some.inj H
        subst hr
        subst hA
        exact rfl
      · replace H := if_f H hc
        refine tr_keep [0, 12, 13] (σ' := mkSl 104 0 [(0, .val (.int .i64) .n r_4), (12, .val (.list (.st [.int .i64, .int .i64, .arr 6 (.arr 6 (.int .i64))])) (.l .n) r_20.1), (13, .val (.list (.int .i64)) (.l .n) r_20.2.1)]) rfl ?_
        refine tr_skip ?_
        refine tr_seq ?_
        refine tr_seq ?_
        refine tr_rg hP tabOk hsp fun A hA M hM => ?_
        cbv
        refine hM _ ?_
        refine tr_block ?_
        refine tr_keepL [0, 12, 13, 75, 76, 77] (fun t76_21 : Int => mkSl 104 0 [(0, .val (.int .i64) .n r_4), (12, .val (.list (.st [.int .i64, .int .i64, .arr 6 (.arr 6 (.int .i64))])) (.l .n) r_20.1), (13, .val (.list (.int .i64)) (.l .n) r_20.2.1), (75, .bor 12 []), (76, .val (.int .i64) .n t76_21), (77, .val (.int .i64) .n (0 : Int))]) H (by subst hA; rfl) (fun t76_21 H => ?_)
        clear hM hA M A
        obtain ⟨q, hq, Hl, Hr⟩ := bindE_out H
        refine tr_loopE 6 (fun x : Int => MatAll_L4 r_4 r_20 t76_21 x) (fun x : Int => mkSl 104 0 [(0, .val (.int .i64) .n r_4), (12, .val (.list (.st [.int .i64, .int .i64, .arr 6 (.arr 6 (.int .i64))])) (.l .n) r_20.1), (13, .val (.list (.int .i64)) (.l .n) r_20.2.1), (75, .bor 12 []), (76, .val (.int .i64) .n t76_21), (77, .val (.int .i64) .n x)]) [0, 12, 13, 75, 76, 77] (fun q_23 : Unit => mkSl 104 0 []) [] hq rfl Hr (fun q_23 hl σ' h => ?_) (fun x r4 H => ?_)
        · replace H := Hl q_23 hl
          refine tr_keep [] h ?_
          refine tr_seq ?_
          refine tr_rg hP tabOk hsp fun A hA M hM => ?_
          cbv
          refine hM _ ?_
          refine tr_ret ?_
          have hr := Option.some.inj H
          subst hr
          subst hA
          exact rfl
        · obtain ⟨t77_22, rfl⟩ : ∃ v, v = x := ⟨x, rfl⟩
          replace H : MatAll_L4 r_4 r_20 t76_21 t77_22 = some r4 := H
          unfold MatAll_L4 at H
          refine tr_seq ?_
          refine tr_rg hP tabOk hsp fun A hA M hM => ?_
          cbv
          refine hM _ ?_
          refine tr_seq ?_
          refine tr_keep [0, 12, 13, 75, 76, 77, 78] (σ' := mkSl 104 0 [(0, .val (.int .i64) .n r_4), (12, .val (.list (.st [.int .i64, .int .i64, .arr 6 (.arr 6 (.int .i64))])) (.l .n) r_20.1), (13, .val (.list (.int .i64)) (.l .n) r_20.2.1), (75, .bor 12 []), (76, .val (.int .i64) .n t76_21), (77, .val (.int .i64) .n t77_22), (78, .val (.bool) .n (decide (t77_22 < t76_21)))]) (by subst hA; rfl) ?_
          clear hM hA M A
          refine tr_cond rfl (fun hc => ?_) (fun hc => ?_)
          · replace H := if_t H hc
            refine tr_keep [0, 12, 13, 75, 76, 77] (σ' := mkSl 104 0 [(0, .val (.int .i64) .n r_4), (12, .val (.list (.st [.int .i64, .int .i64, .arr 6 (.arr 6 (.int .i64))])) (.l .n) r_20.1), (13, .val (.list (.int .i64)) (.l .n) r_20.2.1), (75, .bor 12 []), (76, .val (.int .i64) .n t76_21), (77, .val (.int .i64) .n t77_22)]) rfl ?_
            refine tr_skip ?_
            refine tr_seq ?_
            refine tr_block ?_
            refine tr_seq ?_
            refine tr_rg hP tabOk hsp fun A hA M hM => ?_
            cbv
            obtain ⟨ob1, H⟩ := ck_out H
            refine ⟨by subst hA; exact ob1, hM _ ?_⟩
            refine tr_seq ?_
            refine tr_keepL [0, 12, 13, 17, 75, 76, 77] (fun t17_24 : (Int × Int × List (List Int) × Unit) => mkSl 104 0 [(0, .val (.int .i64) .n r_4), (12, .val (.list (.st [.int .i64, .int .i64, .arr 6 (.arr 6 (.int .i64))])) (.l .n) r_20.1), (13, .val (.list (.int .i64)) (.l .n) r_20.2.1), (17, .val (.box (.st [.int .i64, .int .i64, .arr 6 (.arr 6 (.int .i64))])) (.b .n) t17_24), (75, .bor 12 []), (76, .val (.int .i64) .n t76_21), (77, .val (.int .i64) .n t77_22)]) H (by subst hA; rfl) (fun t17_24 H => ?_)
            clear ob1 hM hA M A
            refine tr_rg hP tabOk hsp fun A hA M hM => ?_
            cbv
            obtain ⟨r_25, hr1, H⟩ := bind_out H
            obtain ⟨pq1, eq1⟩ := hc9 hr1
            refine ⟨by subst hA; subst eq1; exact pq1, hM _ ?_⟩
            refine tr_seq ?_
            refine tr_keep [0, 12, 13, 18, 19, 75, 76, 77] (σ' := mkSl 104 0 [(0, .val (.int .i64) .n r_4), (12, .val (.list (.st [.int .i64, .int .i64, .arr 6 (.arr 6 (.int .i64))])) (.l .n) r_20.1), (13, .val (.list (.int .i64)) (.l .n) r_20.2.1), (18, .val (.box (.arr 6 (.int .i64))) (.b .n) r_25.1), (19, .val (.int .i64) .n r_25.2), (75, .bor 12 []), (76, .val (.int .i64) .n t76_21), (77, .val (.int .i64) .n t77_22)]) (by subst hA; subst eq1; rfl) ?_
            clear pq1 eq1 hr1 hM hA M A
            refine tr_rg hP tabOk hsp fun A hA M hM => ?_
            cbv
            refine hM _ ?_
            refine tr_block ?_
            refine tr_keep [0, 12, 13, 18, 19, 75, 76, 77, 86, 87] (σ' := mkSl 104 0 [(0, .val (.int .i64) .n r_4), (12, .val (.list (.st [.int .i64, .int .i64, .arr 6 (.arr 6 (.int .i64))])) (.l .n) r_20.1), (13, .val (.list (.int .i64)) (.l .n) r_20.2.1), (18, .val (.box (.arr 6 (.int .i64))) (.b .n) r_25.1), (19, .val (.int .i64) .n r_25.2), (75, .bor 12 []), (76, .val (.int .i64) .n t76_21), (77, .val (.int .i64) .n t77_22), (86, .val (.int .i64) .n r_4), (87, .val (.int .i64) .n (0 : Int))]) (by subst hA; rfl) ?_
            clear hM hA M A
            obtain ⟨q, hq, Hl, Hr⟩ := bindE_out H
            refine tr_loopE 8 (fun x : Int => MatAll_L5 r_4 r_20 r_25 x) (fun x : Int => mkSl 104 0 [(0, .val (.int .i64) .n r_4), (12, .val (.list (.st [.int .i64, .int .i64, .arr 6 (.arr 6 (.int .i64))])) (.l .n) r_20.1), (13, .val (.list (.int .i64)) (.l .n) r_20.2.1), (18, .val (.box (.arr 6 (.int .i64))) (.b .n) r_25.1), (19, .val (.int .i64) .n r_25.2), (75, .bor 12 []), (76, .val (.int .i64) .n t76_21), (77, .val (.int .i64) .n t77_22), (86, .val (.int .i64) .n r_4), (87, .val (.int .i64) .n x)]) [0, 12, 13, 18, 19, 75, 76, 77, 86, 87] (fun q_27 : Unit => mkSl 104 0 [(0, .val (.int .i64) .n r_4), (12, .val (.list (.st [.int .i64, .int .i64, .arr 6 (.arr 6 (.int .i64))])) (.l .n) r_20.1), (13, .val (.list (.int .i64)) (.l .n) r_20.2.1), (75, .bor 12 []), (76, .val (.int .i64) .n t76_21), (77, .val (.int .i64) .n t77_22)]) [0, 12, 13, 75, 76, 77] hq rfl Hr (fun q_27 hl σ' h => ?_) (fun x r5 H => ?_)
            · replace H := Hl q_27 hl
              refine tr_keep [0, 12, 13, 75, 76, 77] h ?_
              refine tr_rg hP tabOk hsp fun A hA M hM => ?_
              cbv
              refine hM _ ?_
              exact Exists.intro _ (And.intro (Option.some.inj H).symm (by subst hA; rfl))
            · obtain ⟨t87_26, rfl⟩ : ∃ v, v = x := ⟨x, rfl⟩
              replace H : MatAll_L5 r_4 r_20 r_25 t87_26 = some r5 := H
              unfold MatAll_L5 at H
              refine tr_seq ?_
              refine tr_rg hP tabOk hsp fun A hA M hM => ?_
              cbv
              refine hM _ ?_
              refine tr_seq ?_
              refine tr_keep [0, 12, 13, 18, 19, 75, 76, 77, 86, 87, 88] (σ' := mkSl 104 0 [(0, .val (.int .i64) .n r_4), (12, .val (.list (.st [.int .i64, .int .i64, .arr 6 (.arr 6 (.int .i64))])) (.l .n) r_20.1), (13, .val (.list (.int .i64)) (.l .n) r_20.2.1), (18, .val (.box (.arr 6 (.int .i64))) (.b .n) r_25.1), (19, .val (.int .i64) .n r_25.2), (75, .bor 12 []), (76, .val (.int .i64) .n t76_21), (77, .val (.int .i64) .n t77_22), (86, .val (.int .i64) .n r_4), (87, .val (.int .i64) .n t87_26), (88, .val (.bool) .n (decide (t87_26 < r_4)))]) (by subst hA; rfl) ?_
              clear hM hA M A
              refine tr_cond rfl (fun hc => ?_) (fun hc => ?_)
              · replace H := if_t H hc
                refine tr_keep [0, 12, 13, 18, 19, 75, 76, 77, 86, 87] (σ' := mkSl 104 0 [(0, .val (.int .i64) .n r_4), (12, .val (.list (.st [.int .i64, .int .i64, .arr 6 (.arr 6 (.int .i64))])) (.l .n) r_20.1), (13, .val (.list (.int .i64)) (.l .n) r_20.2.1), (18, .val (.box (.arr 6 (.int .i64))) (.b .n) r_25.1), (19, .val (.int .i64) .n r_25.2), (75, .bor 12 []), (76, .val (.int .i64) .n t76_21), (77, .val (.int .i64) .n t77_22), (86, .val (.int .i64) .n r_4), (87, .val (.int .i64) .n t87_26)]) rfl ?_
                refine tr_skip ?_
                refine tr_seq ?_
                refine tr_block ?_
                refine tr_seq ?_
                refine tr_rg hP tabOk hsp fun A hA M hM => ?_
                cbv
                refine hM _ ?_
                refine tr_seq ?_
                refine tr_keep [0, 12, 13, 18, 19, 20, 75, 76, 77, 86, 87] (σ' := mkSl 104 0 [(0, .val (.int .i64) .n r_4), (12, .val (.list (.st [.int .i64, .int .i64, .arr 6 (.arr 6 (.int .i64))])) (.l .n) r_20.1), (13, .val (.list (.int .i64)) (.l .n) r_20.2.1), (18, .val (.box (.arr 6 (.int .i64))) (.b .n) r_25.1), (19, .val (.int .i64) .n r_25.2), (20, .val (.int .i64) .n t87_26), (75, .bor 12 []), (76, .val (.int .i64) .n t76_21), (77, .val (.int .i64) .n t77_22), (86, .val (.int .i64) .n r_4), (87, .val (.int .i64) .n t87_26)]) (by subst hA; rfl) ?_
                clear hM hA M A
                refine tr_rg hP tabOk hsp fun A hA M hM => ?_
                cbv
                obtain ⟨ob1, H⟩ := ck_out H
                obtain ⟨ob2, H⟩ := ck_out H
                refine ⟨by subst hA; exact ob1, by subst hA; exact ob2, hM _ ?_⟩
                refine tr_keep [0, 12, 13, 18, 19, 75, 76, 77, 86, 87, 101] (σ' := mkSl 104 0 [(0, .val (.int .i64) .n r_4), (12, .val (.list (.st [.int .i64, .int .i64, .arr 6 (.arr 6 (.int .i64))])) (.l .n) r_20.1), (13, .val (.list (.int .i64)) (.l .n) r_20.2.1), (18, .val (.box (.arr 6 (.int .i64))) (.b .n) r_25.1), (19, .val (.int .i64) .n r_25.2), (75, .bor 12 []), (76, .val (.int .i64) .n t76_21), (77, .val (.int .i64) .n t77_22), (86, .val (.int .i64) .n r_4), (87, .val (.int .i64) .n t87_26), (101, .val (.bool) .n ((r_25.2 != (0 : Int)) || ((r_25.1.getD t87_26.toNat (0 : Int)) != (r_20.2.1.getD t87_26.toNat (0 : Int)))))]) (by subst hA; rfl) ?_
                clear ob2 ob1 hM hA M A
                refine tr_cond rfl (fun hc => ?_) (fun hc => ?_)
                · replace H := if_t H hc
                  refine tr_keep [0, 12, 13, 18, 19, 75, 76, 77, 86, 87] (σ' := mkSl 104 0 [(0, .val (.int .i64) .n r_4), (12, .val (.list (.st [.int .i64, .int .i64, .arr 6 (.arr 6 (.int .i64))])) (.l .n) r_20.1), (13, .val (.list (.int .i64)) (.l .n) r_20.2.1), (18, .val (.box (.arr 6 (.int .i64))) (.b .n) r_25.1), (19, .val (.int .i64) .n r_25.2), (75, .bor 12 []), (76, .val (.int .i64) .n t76_21), (77, .val (.int .i64) .n t77_22), (86, .val (.int .i64) .n r_4), (87, .val (.int .i64) .n t87_26)]) rfl ?_
                  refine tr_seq ?_
                  refine tr_rg hP tabOk hsp fun A hA M hM => ?_
                  cbv
                  refine hM _ ?_
                  refine tr_ret ?_
                  have hr := Option.some.inj H
                  refine Exists.intro _ (And.intro hr.symm (fun hr => ?_))
                  refine Exists.intro _ (And.intro hr.symm (fun hr => ?_))
                  subst hr
                  subst hA
                  exact rfl
                · replace H := if_f H hc
                  refine tr_keep [0, 12, 13, 18, 19, 75, 76, 77, 86, 87] (σ' := mkSl 104 0 [(0, .val (.int .i64) .n r_4), (12, .val (.list (.st [.int .i64, .int .i64, .arr 6 (.arr 6 (.int .i64))])) (.l .n) r_20.1), (13, .val (.list (.int .i64)) (.l .n) r_20.2.1), (18, .val (.box (.arr 6 (.int .i64))) (.b .n) r_25.1), (19, .val (.int .i64) .n r_25.2), (75, .bor 12 []), (76, .val (.int .i64) .n t76_21), (77, .val (.int .i64) .n t77_22), (86, .val (.int .i64) .n r_4), (87, .val (.int .i64) .n t87_26)]) rfl ?_
                  refine tr_skip ?_
                  refine tr_rg hP tabOk hsp fun A hA M hM => ?_
                  cbv
                  refine hM _ ?_
                  exact Exists.intro _ (And.intro (Option.some.inj H).symm (by subst hA; rfl))
              · replace H := if_f H hc
                refine tr_keep [0, 12, 13, 18, 19, 75, 76, 77, 86, 87] (σ' := mkSl 104 0 [(0, .val (.int .i64) .n r_4), (12, .val (.list (.st [.int .i64, .int .i64, .arr 6 (.arr 6 (.int .i64))])) (.l .n) r_20.1), (13, .val (.list (.int .i64)) (.l .n) r_20.2.1), (18, .val (.box (.arr 6 (.int .i64))) (.b .n) r_25.1), (19, .val (.int .i64) .n r_25.2), (75, .bor 12 []), (76, .val (.int .i64) .n t76_21), (77, .val (.int .i64) .n t77_22), (86, .val (.int .i64) .n r_4), (87, .val (.int .i64) .n t87_26)]) rfl ?_
                refine tr_exit ?_
                exact And.intro rfl (Exists.intro _ (And.intro (Option.some.inj H).symm (by rfl)))
          · replace H := if_f H hc
            refine tr_keep [0, 12, 13, 75, 76, 77] (σ' := mkSl 104 0 [(0, .val (.int .i64) .n r_4), (12, .val (.list (.st [.int .i64, .int .i64, .arr 6 (.arr 6 (.int .i64))])) (.l .n) r_20.1), (13, .val (.list (.int .i64)) (.l .n) r_20.2.1), (75, .bor 12 []), (76, .val (.int .i64) .n t76_21), (77, .val (.int .i64) .n t77_22)]) rfl ?_
            refine tr_exit ?_
            exact And.intro rfl (Exists.intro _ (And.intro (Option.some.inj H).symm (by rfl)))
    · obtain ⟨t9_7, t46_8⟩ := x
      replace H : MatAll_L1 r_4 t45_6 t9_7 t46_8 = some r1 := H
      unfold MatAll_L1 at H
      refine tr_seq ?_
      refine tr_rg hP tabOk hsp fun A hA M hM => ?_
      cbv
      refine hM _ ?_
      refine tr_seq ?_
      refine tr_keep [0, 9, 45, 46, 47] (σ' := mkSl 104 0 [(0, .val (.int .i64) .n r_4), (9, .val (.list (.st [.int .i64, .int .i64, .int .i64])) (.l .n) t9_7), (45, .val (.int .i64) .n t45_6), (46, .val (.int .i64) .n t46_8), (47, .val (.bool) .n (decide (t46_8 < t45_6)))]) (by subst hA; rfl) ?_
      clear hM hA M A
      refine tr_cond rfl (fun hc => ?_) (fun hc => ?_)
      · replace H := if_t H hc
        refine tr_keep [0, 9, 45, 46] (σ' := mkSl 104 0 [(0, .val (.int .i64) .n r_4), (9, .val (.list (.st [.int .i64, .int .i64, .int .i64])) (.l .n) t9_7), (45, .val (.int .i64) .n t45_6), (46, .val (.int .i64) .n t46_8)]) rfl ?_
        refine tr_skip ?_
        refine tr_seq ?_
        refine tr_block ?_
        refine tr_seq ?_
        refine tr_rg hP tabOk hsp fun A hA M hM => ?_
        cbv
        refine hM _ ?_
        refine tr_block ?_
        refine tr_keep [0, 9, 45, 46, 48, 49] (σ' := mkSl 104 0 [(0, .val (.int .i64) .n r_4), (9, .val (.list (.st [.int .i64, .int .i64, .int .i64])) (.l .n) t9_7), (45, .val (.int .i64) .n t45_6), (46, .val (.int .i64) .n t46_8), (48, .val (.int .i64) .n r_4), (49, .val (.int .i64) .n (0 : Int))]) (by subst hA; rfl) ?_
        clear hM hA M A
        obtain ⟨q_14, hq, H⟩ := bind_out H
        refine tr_loopB 2 (fun x : List ((Int × Int × Int × Unit)) × Int => MatAll_L2 r_4 x.1 x.2) (fun x : List ((Int × Int × Int × Unit)) × Int => mkSl 104 0 [(0, .val (.int .i64) .n r_4), (9, .val (.list (.st [.int .i64, .int .i64, .int .i64])) (.l .n) x.1), (45, .val (.int .i64) .n t45_6), (46, .val (.int .i64) .n t46_8), (48, .val (.int .i64) .n r_4), (49, .val (.int .i64) .n x.2)]) [0, 9, 45, 46, 48, 49] (fun q_14 : List ((Int × Int × Int × Unit)) => mkSl 104 0 [(0, .val (.int .i64) .n r_4), (9, .val (.list (.st [.int .i64, .int .i64, .int .i64])) (.l .n) q_14), (45, .val (.int .i64) .n t45_6), (46, .val (.int .i64) .n t46_8)]) [0, 9, 45, 46] hq rfl (fun σ' h => ?_) (fun x r2 H => ?_)
        · refine tr_keep [0, 9, 45, 46] h ?_
          refine tr_rg hP tabOk hsp fun A hA M hM => ?_
          cbv
          refine hM _ ?_
          exact Exists.intro _ (And.intro (Option.some.inj H).symm (by subst hA; rfl))
        · obtain ⟨t9_11, t49_12⟩ := x
          replace H : MatAll_L2 r_4 t9_11 t49_12 = some r2 := H
          unfold MatAll_L2 at H
          refine tr_seq ?_
          refine tr_rg hP tabOk hsp fun A hA M hM => ?_
          cbv
          refine hM _ ?_
          refine tr_seq ?_
          refine tr_keep [0, 9, 45, 46, 48, 49, 50] (σ' := mkSl 104 0 [(0, .val (.int .i64) .n r_4), (9, .val (.list (.st [.int .i64, .int .i64, .int .i64])) (.l .n) t9_11), (45, .val (.int .i64) .n t45_6), (46, .val (.int .i64) .n t46_8), (48, .val (.int .i64) .n r_4), (49, .val (.int .i64) .n t49_12), (50, .val (.bool) .n (decide (t49_12 < r_4)))]) (by subst hA; rfl) ?_
          clear hM hA M A
          refine tr_cond rfl (fun hc => ?_) (fun hc => ?_)
          · replace H := if_t H hc
            refine tr_keep [0, 9, 45, 46, 48, 49] (σ' := mkSl 104 0 [(0, .val (.int .i64) .n r_4), (9, .val (.list (.st [.int .i64, .int .i64, .int .i64])) (.l .n) t9_11), (45, .val (.int .i64) .n t45_6), (46, .val (.int .i64) .n t46_8), (48, .val (.int .i64) .n r_4), (49, .val (.int .i64) .n t49_12)]) rfl ?_
            refine tr_skip ?_
            refine tr_seq ?_
            refine tr_block ?_
            refine tr_seq ?_
            refine tr_rg hP tabOk hsp fun A hA M hM => ?_
            cbv
            refine hM _ ?_
            refine tr_seq ?_
            refine tr_keep [0, 9, 10, 45, 46, 48, 49] (σ' := mkSl 104 0 [(0, .val (.int .i64) .n r_4), (9, .val (.list (.st [.int .i64, .int .i64, .int .i64])) (.l .n) t9_11), (10, .val (.int .i64) .n t49_12), (45, .val (.int .i64) .n t45_6), (46, .val (.int .i64) .n t46_8), (48, .val (.int .i64) .n r_4), (49, .val (.int .i64) .n t49_12)]) (by subst hA; rfl) ?_
            clear hM hA M A
            refine tr_rg hP tabOk hsp fun A hA M hM => ?_
            cbv
            refine hM _ ?_
            refine tr_block ?_
            refine tr_keep [0, 9, 10, 45, 46, 48, 49, 52, 53] (σ' := mkSl 104 0 [(0, .val (.int .i64) .n r_4), (9, .val (.list (.st [.int .i64, .int .i64, .int .i64])) (.l .n) t9_11), (10, .val (.int .i64) .n t49_12), (45, .val (.int .i64) .n t45_6), (46, .val (.int .i64) .n t46_8), (48, .val (.int .i64) .n r_4), (49, .val (.int .i64) .n t49_12), (52, .val (.int .i64) .n r_4), (53, .val (.int .i64) .n (0 : Int))]) (by subst hA; rfl) ?_
            clear hM hA M A
            obtain ⟨q_18, hq, H⟩ := bind_out H
            refine tr_loopB 4 (fun x : List ((Int × Int × Int × Unit)) × Int => MatAll_L3 r_4 t49_12 x.1 x.2) (fun x : List ((Int × Int × Int × Unit)) × Int => mkSl 104 0 [(0, .val (.int .i64) .n r_4), (9, .val (.list (.st [.int .i64, .int .i64, .int .i64])) (.l .n) x.1), (10, .val (.int .i64) .n t49_12), (45, .val (.int .i64) .n t45_6), (46, .val (.int .i64) .n t46_8), (48, .val (.int .i64) .n r_4), (49, .val (.int .i64) .n t49_12), (52, .val (.int .i64) .n r_4), (53, .val (.int .i64) .n x.2)]) [0, 9, 10, 45, 46, 48, 49, 52, 53] (fun q_18 : List ((Int × Int × Int × Unit)) => mkSl 104 0 [(0, .val (.int .i64) .n r_4), (9, .val (.list (.st [.int .i64, .int .i64, .int .i64])) (.l .n) q_18), (45, .val (.int .i64) .n t45_6), (46, .val (.int .i64) .n t46_8), (48, .val (.int .i64) .n r_4), (49, .val (.int .i64) .n t49_12)]) [0, 9, 45, 46, 48, 49] hq rfl (fun σ' h => ?_) (fun x r3 H => ?_)
            · refine tr_keep [0, 9, 45, 46, 48, 49] h ?_
              refine tr_rg hP tabOk hsp fun A hA M hM => ?_
              cbv
              refine hM _ ?_
              exact Exists.intro _ (And.intro (Option.some.inj H).symm (by subst hA; rfl))
            · obtain ⟨t9_15, t53_16⟩ := x
              replace H : MatAll_L3 r_4 t49_12 t9_15 t53_16 = some r3 := H
              unfold MatAll_L3 at H
              refine tr_seq ?_
              refine tr_rg hP tabOk hsp fun A hA M hM => ?_
              cbv
              refine hM _ ?_
              refine tr_seq ?_
              refine tr_keep [0, 9, 10, 45, 46, 48, 49, 52, 53, 54] (σ' := mkSl 104 0 [(0, .val (.int .i64) .n r_4), (9, .val (.list (.st [.int .i64, .int .i64, .int .i64])) (.l .n) t9_15), (10, .val (.int .i64) .n t49_12), (45, .val (.int .i64) .n t45_6), (46, .val (.int .i64) .n t46_8), (48, .val (.int .i64) .n r_4), (49, .val (.int .i64) .n t49_12), (52, .val (.int .i64) .n r_4), (53, .val (.int .i64) .n t53_16), (54, .val (.bool) .n (decide (t53_16 < r_4)))]) (by subst hA; rfl) ?_
              clear hM hA M A
              refine tr_cond rfl (fun hc => ?_) (fun hc => ?_)
              · replace H := if_t H hc
                refine tr_keep [0, 9, 10, 45, 46, 48, 49, 52, 53] (σ' := mkSl 104 0 [(0, .val (.int .i64) .n r_4), (9, .val (.list (.st [.int .i64, .int .i64, .int .i64])) (.l .n) t9_15), (10, .val (.int .i64) .n t49_12), (45, .val (.int .i64) .n t45_6), (46, .val (.int .i64) .n t46_8), (48, .val (.int .i64) .n r_4), (49, .val (.int .i64) .n t49_12), (52, .val (.int .i64) .n r_4), (53, .val (.int .i64) .n t53_16)]) rfl ?_
                refine tr_skip ?_
                refine tr_seq ?_
                refine tr_block ?_
                refine tr_seq ?_
                refine tr_rg hP tabOk hsp fun A hA M hM => ?_
                cbv
                refine hM _ ?_
                refine tr_keep [0, 9, 10, 11, 45, 46, 48, 49, 52, 53] (σ' := mkSl 104 0 [(0, .val (.int .i64) .n r_4), (9, .val (.list (.st [.int .i64, .int .i64, .int .i64])) (.l .n) t9_15), (10, .val (.int .i64) .n t49_12), (11, .val (.int .i64) .n t53_16), (45, .val (.int .i64) .n t45_6), (46, .val (.int .i64) .n t46_8), (48, .val (.int .i64) .n r_4), (49, .val (.int .i64) .n t49_12), (52, .val (.int .i64) .n r_4), (53, .val (.int .i64) .n t53_16)]) (by subst hA; rfl) ?_
                clear hM hA M A
                refine tr_rg hP tabOk hsp fun A hA M hM => ?_
                cbv
                obtain ⟨ob1, H⟩ := ck_out H
                refine ⟨by subst hA; exact ob1, hM _ ?_⟩
                refine tr_keepL [0, 9, 10, 45, 46, 48, 49, 52, 53] (fun t9_19 : List ((Int × Int × Int × Unit)) => mkSl 104 0 [(0, .val (.int .i64) .n r_4), (9, .val (.list (.st [.int .i64, .int .i64, .int .i64])) (.l .n) t9_19), (10, .val (.int .i64) .n t49_12), (45, .val (.int .i64) .n t45_6), (46, .val (.int .i64) .n t46_8), (48, .val (.int .i64) .n r_4), (49, .val (.int .i64) .n t49_12), (52, .val (.int .i64) .n r_4), (53, .val (.int .i64) .n t53_16)]) H (by subst hA; rfl) (fun t9_19 H => ?_)
                clear ob1 hM hA M A
                refine tr_rg hP tabOk hsp fun A hA M hM => ?_
                cbv
                refine hM _ ?_
                exact Exists.intro _ (And.intro (Option.some.inj H).symm (by subst hA; rfl))
              · replace H := if_f H hc
                refine tr_keep [0, 9, 10, 45, 46, 48, 49, 52, 53] (σ' := mkSl 104 0 [(0, .val (.int .i64) .n r_4), (9, .val (.list (.st [.int .i64, .int .i64, .int .i64])) (.l .n) t9_15), (10, .val (.int .i64) .n t49_12), (45, .val (.int .i64) .n t45_6), (46, .val (.int .i64) .n t46_8), (48, .val (.int .i64) .n r_4), (49, .val (.int .i64) .n t49_12), (52, .val (.int .i64) .n r_4), (53, .val (.int .i64) .n t53_16)]) rfl ?_
                refine tr_exit ?_
                exact And.intro rfl (Exists.intro _ (And.intro (Option.some.inj H).symm (by rfl)))
          · replace H := if_f H hc
            refine tr_keep [0, 9, 45, 46, 48, 49] (σ' := mkSl 104 0 [(0, .val (.int .i64) .n r_4), (9, .val (.list (.st [.int .i64, .int .i64, .int .i64])) (.l .n) t9_11), (45, .val (.int .i64) .n t45_6), (46, .val (.int .i64) .n t46_8), (48, .val (.int .i64) .n r_4), (49, .val (.int .i64) .n t49_12)]) rfl ?_
            refine tr_exit ?_
            exact And.intro rfl (Exists.intro _ (And.intro (Option.some.inj H).symm (by rfl)))
      · replace H := if_f H hc
        refine tr_keep [0, 9, 45, 46] (σ' := mkSl 104 0 [(0, .val (.int .i64) .n r_4), (9, .val (.list (.st [.int .i64, .int .i64, .int .i64])) (.l .n) t9_7), (45, .val (.int .i64) .n t45_6), (46, .val (.int .i64) .n t46_8)]) rfl ?_
        refine tr_exit ?_
        exact And.intro rfl (Exists.intro _ (And.intro (Option.some.inj H).symm (by rfl)))
theorem MatAll_sp : ∃ (pg : PT.denL [.int .i64, .list (.st [.int .i64, .int .i64, .int .i64])] → Prop) (fg : PT.denL [.int .i64, .list (.st [.int .i64, .int .i64, .int .i64])] → PT.denL [.bool]), SpecRuns Try.prog 6 ⟨[.int .i64, .list (.st [.int .i64, .int .i64, .int .i64])], [.v, .v], [.bool], [.n], pg, fg⟩ ∧ (∀ {a1 : Int} {a2 : List ((Int × Int × Int × Unit))} {y : Bool}, MatAll a1 a2 = some y → pg (a1, a2, ()) ∧ y = (fg (a1, a2, ())).1) ∧ (∀ {a1 : Int} {a2 : List ((Int × Int × Int × Unit))}, (MatAll a1 a2).isSome = true → pg (a1, a2, ())) ∧ ∀ {a1 : Int} {a2 : List ((Int × Int × Int × Unit))}, (MatAll a1 a2).getD false = (fg (a1, a2, ())).1 := by
  obtain ⟨pg, fg, h, hc, hi, hd⟩ := spec_hide MatAll_runs
  refine ⟨pg, fg, h, ?_, ?_, ?_⟩
  · intro a1 a2 y e
    obtain ⟨h1, h2⟩ := hc (a1, a2, ()) (y, ()) (congrArg (Option.map fun r => (r, ())) e)
    exact ⟨h1, by first | (rw [h2]; done) | (rw [h2]; rfl)⟩
  · intro a1 a2
    intro e
    exact hi (a1, a2, ()) (map_isSome e)
  · intro a1 a2
    rw [hd (a1, a2, ())]
    cases MatAll a1 a2 <;> rfl
end Go.Proofs.Ytikbileeohddjaa.Mt
