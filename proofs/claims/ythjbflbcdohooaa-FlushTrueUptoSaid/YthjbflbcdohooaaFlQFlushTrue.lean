/- Functions of the program as functions that may fail, and that the code computes them (printed). Each theorem bears its conditions itself. -/
import Derived.Test.YthjbflbcdohooaaFlDefs
import Derived.Test.YthjbflbcdohooaaFlTab
import Derived.Test.YthjbflbcdohooaaFlQflushQNew
import Derived.Test.YthjbflbcdohooaaFlQflushQChange
import Derived.Test.YthjbflbcdohooaaFlQslicesQContainsQLintQint
open Go Go.Proofs.Ythjbflbcdohooaa.Sy Go.Proofs
set_option maxHeartbeats 4000000
set_option maxRecDepth 100000
set_option cbv.maxSteps 10000000
set_option linter.unusedVariables false
set_option linter.unusedSimpArgs false
namespace Go.Proofs.Ythjbflbcdohooaa.Fl
theorem FlushTrue_runs : SpecRuns Try.prog 3 (oSpec [.st [.st [.int .i64, .int .u8], .int .u8, .arr 6 (.list (.int .i64))], .int .u8] [.v, .v] [.bool] [.n] fun x => (FlushTrue x.1 x.2.1).map fun r => (r, ())) := by
  obtain ⟨pg7, fg7, hs7, hc7, hi7, hd7⟩ := flush_New_sp
  obtain ⟨pg8, fg8, hs8, hc8, hi8, hd8⟩ := flush_Change_sp
  obtain ⟨pg9, fg9, hs9, hc9, hi9, hd9⟩ := slices_Contains_Lint_int_sp
  have hsp : SpecsOk Try.prog [(7, ⟨[.int .u8], [.v], [.st [.st [.int .i64, .int .u8], .int .u8, .arr 6 (.list (.int .i64))], .int .i64], [.s [.n, .n, (.a (.l .n))], .n], pg7, fg7⟩), (8, ⟨[.st [.st [.int .i64, .int .u8], .int .u8, .arr 6 (.list (.int .i64))], .int .u8], [.v, .v], [.st [.st [.int .i64, .int .u8], .int .u8, .arr 6 (.list (.int .i64))], .arr 6 (.list (.int .i64)), .int .i64], [.s [.n, .n, (.a (.l .n))], .a (.l .n), .n], pg8, fg8⟩), (9, ⟨[.list (.int .i64), .int .i64], [.v, .v], [.bool], [.n], pg9, fg9⟩)] := (specsOk_cons Try.func7 (by kernel_rfl) (by kernel_rfl) hs7 (specsOk_cons Try.func8 (by kernel_rfl) (by kernel_rfl) hs8 (specsOk_cons Try.func9 (by kernel_rfl) (by kernel_rfl) hs9 specsOk_nil)))
  refine runs_of_o tabOk Try.func3 rfl (Nat.le_of_ble_eq_true rfl) rfl ?_
  rintro E ⟨(t0_1 : ((Int × Int × Unit) × Int × List (List Int) × Unit)), (t1_2 : Int), ⟨⟩⟩ y hP H hw
  obtain ⟨z, H1, rfl⟩ := map_out H
  replace H : FlushTrue t0_1 t1_2 = some z := H1
  clear hw H1
  unfold FlushTrue at H
  refine tr_keep [0, 1] (σ' := mkSl 88 0 [(0, .val (.st [.st [.int .i64, .int .u8], .int .u8, .arr 6 (.list (.int .i64))]) .n t0_1), (1, .val (.int .u8) .n t1_2)]) rfl ?_
  refine tr_seq ?_
  refine tr_rg hP tabOk hsp fun A hA M hM => ?_
  cbv
  refine hM _ ?_
  refine tr_seq ?_
  refine tr_keep [1, 2] (σ' := mkSl 88 0 [(1, .val (.int .u8) .n t1_2), (2, .val (.box (.st [.st [.int .i64, .int .u8], .int .u8, .arr 6 (.list (.int .i64))])) (.b .n) t0_1)]) (by subst hA; rfl) ?_
  clear hM hA M A
  refine tr_rg hP tabOk hsp fun A hA M hM => ?_
  cbv
  obtain ⟨r_3, hr1, H⟩ := bind_out H
  obtain ⟨pq1, eq1⟩ := hc7 hr1
  refine ⟨by subst hA; subst eq1; exact pq1, hM _ ?_⟩
  refine tr_seq ?_
  refine tr_seq ?_
  refine tr_keep [1, 2, 5, 6] (σ' := mkSl 88 0 [(1, .val (.int .u8) .n t1_2), (2, .val (.box (.st [.st [.int .i64, .int .u8], .int .u8, .arr 6 (.list (.int .i64))])) (.b .n) t0_1), (5, .val (.box (.st [.st [.int .i64, .int .u8], .int .u8, .arr 6 (.list (.int .i64))])) (.b (.s [.n, .n, (.a (.l .n))])) r_3.1), (6, .val (.int .i64) .n r_3.2)]) (by subst hA; subst eq1; rfl) ?_
  clear pq1 eq1 hr1 hM hA M A
  refine tr_rg hP tabOk hsp fun A hA M hM => ?_
  cbv
  refine hM _ ?_
  refine tr_keep [1, 2, 25] (σ' := mkSl 88 0 [(1, .val (.int .u8) .n t1_2), (2, .val (.box (.st [.st [.int .i64, .int .u8], .int .u8, .arr 6 (.list (.int .i64))])) (.b .n) t0_1), (25, .val (.bool) .n ((r_3.2 != (0 : Int)) || (r_3.1.1.2.1 != (3 : Int))))]) (by subst hA; rfl) ?_
  clear hM hA M A
  refine tr_cond rfl (fun hc => ?_) (fun hc => ?_)
  · replace H := if_t H hc
    refine tr_keep [1, 2] (σ' := mkSl 88 0 [(1, .val (.int .u8) .n t1_2), (2, .val (.box (.st [.st [.int .i64, .int .u8], .int .u8, .arr 6 (.list (.int .i64))])) (.b .n) t0_1)]) rfl ?_
    refine tr_seq ?_
    refine tr_rg hP tabOk hsp fun A hA M hM => ?_
    cbv
    refine hM _ ?_
    refine tr_ret ?_
    have hr := Option.some.inj H
    subst hr
    subst hA
    exact rfl
  · replace H := if_f H hc
    refine tr_keep [1, 2] (σ' := mkSl 88 0 [(1, .val (.int .u8) .n t1_2), (2, .val (.box (.st [.st [.int .i64, .int .u8], .int .u8, .arr 6 (.list (.int .i64))])) (.b .n) t0_1)]) rfl ?_
    refine tr_skip ?_
    refine tr_seq ?_
    refine tr_rg hP tabOk hsp fun A hA M hM => ?_
    cbv
    obtain ⟨r_4, hr1, H⟩ := bind_out H
    obtain ⟨pq1, eq1⟩ := hc8 hr1
    refine ⟨by subst hA; subst eq1; exact pq1, hM _ ?_⟩
    refine tr_seq ?_
    refine tr_seq ?_
    refine tr_keep [2, 6, 7, 8] (σ' := mkSl 88 0 [(2, .val (.box (.st [.st [.int .i64, .int .u8], .int .u8, .arr 6 (.list (.int .i64))])) (.b .n) t0_1), (6, .val (.int .i64) .n r_4.2.2), (7, .val (.box (.st [.st [.int .i64, .int .u8], .int .u8, .arr 6 (.list (.int .i64))])) (.b (.s [.n, .n, (.a (.l .n))])) r_4.1), (8, .val (.box (.arr 6 (.list (.int .i64)))) (.b (.a (.l .n))) r_4.2.1)]) (by subst hA; subst eq1; rfl) ?_
    clear pq1 eq1 hr1 hM hA M A
    refine tr_rg hP tabOk hsp fun A hA M hM => ?_
    cbv
    refine hM _ ?_
    refine tr_keep [2, 7, 8, 34] (σ' := mkSl 88 0 [(2, .val (.box (.st [.st [.int .i64, .int .u8], .int .u8, .arr 6 (.list (.int .i64))])) (.b .n) t0_1), (7, .val (.box (.st [.st [.int .i64, .int .u8], .int .u8, .arr 6 (.list (.int .i64))])) (.b (.s [.n, .n, (.a (.l .n))])) r_4.1), (8, .val (.box (.arr 6 (.list (.int .i64)))) (.b (.a (.l .n))) r_4.2.1), (34, .val (.bool) .n (r_4.2.2 != (0 : Int)))]) (by subst hA; rfl) ?_
    clear hM hA M A
    refine tr_cond rfl (fun hc => ?_) (fun hc => ?_)
    · replace H := if_t H hc
      refine tr_keep [2, 7, 8] (σ' := mkSl 88 0 [(2, .val (.box (.st [.st [.int .i64, .int .u8], .int .u8, .arr 6 (.list (.int .i64))])) (.b .n) t0_1), (7, .val (.box (.st [.st [.int .i64, .int .u8], .int .u8, .arr 6 (.list (.int .i64))])) (.b (.s [.n, .n, (.a (.l .n))])) r_4.1), (8, .val (.box (.arr 6 (.list (.int .i64)))) (.b (.a (.l .n))) r_4.2.1)]) rfl ?_
      refine tr_seq ?_
      refine tr_rg hP tabOk hsp fun A hA M hM => ?_
      cbv
      refine hM _ ?_
      refine tr_ret ?_
      have hr := Option.some.inj H
      subst hr
      subst hA
      exact rfl
    · replace H := if_f H hc
      refine tr_keep [2, 7, 8] (σ' := mkSl 88 0 [(2, .val (.box (.st [.st [.int .i64, .int .u8], .int .u8, .arr 6 (.list (.int .i64))])) (.b .n) t0_1), (7, .val (.box (.st [.st [.int .i64, .int .u8], .int .u8, .arr 6 (.list (.int .i64))])) (.b (.s [.n, .n, (.a (.l .n))])) r_4.1), (8, .val (.box (.arr 6 (.list (.int .i64)))) (.b (.a (.l .n))) r_4.2.1)]) rfl ?_
      refine tr_skip ?_
      refine tr_seq ?_
      refine tr_seq ?_
      refine tr_rg hP tabOk hsp fun A hA M hM => ?_
      cbv
      refine hM _ ?_
      refine tr_block ?_
      refine tr_keep [2, 7, 8, 35] (σ' := mkSl 88 0 [(2, .val (.box (.st [.st [.int .i64, .int .u8], .int .u8, .arr 6 (.list (.int .i64))])) (.b .n) t0_1), (7, .val (.box (.st [.st [.int .i64, .int .u8], .int .u8, .arr 6 (.list (.int .i64))])) (.b (.s [.n, .n, (.a (.l .n))])) r_4.1), (8, .val (.box (.arr 6 (.list (.int .i64)))) (.b (.a (.l .n))) r_4.2.1), (35, .val (.int .i64) .n (0 : Int))]) (by subst hA; rfl) ?_
      clear hM hA M A
      obtain ⟨q, hq, Hl, Hr⟩ := bindE_out H
      refine tr_loopE 0 (fun x : Int => FlushTrue_L1 t0_1 r_4 x) (fun x : Int => mkSl 88 0 [(2, .val (.box (.st [.st [.int .i64, .int .u8], .int .u8, .arr 6 (.list (.int .i64))])) (.b .n) t0_1), (7, .val (.box (.st [.st [.int .i64, .int .u8], .int .u8, .arr 6 (.list (.int .i64))])) (.b (.s [.n, .n, (.a (.l .n))])) r_4.1), (8, .val (.box (.arr 6 (.list (.int .i64)))) (.b (.a (.l .n))) r_4.2.1), (35, .val (.int .i64) .n x)]) [2, 7, 8, 35] (fun q_6 : Unit => mkSl 88 0 [(2, .val (.box (.st [.st [.int .i64, .int .u8], .int .u8, .arr 6 (.list (.int .i64))])) (.b .n) t0_1), (7, .val (.box (.st [.st [.int .i64, .int .u8], .int .u8, .arr 6 (.list (.int .i64))])) (.b (.s [.n, .n, (.a (.l .n))])) r_4.1)]) [2, 7] hq rfl Hr (fun q_6 hl σ' h => ?_) (fun x r1 H => ?_)
      · replace H := Hl q_6 hl
        refine tr_keep [2, 7] h ?_
        refine tr_seq ?_
        refine tr_rg hP tabOk hsp fun A hA M hM => ?_
        cbv
        refine hM _ ?_
        refine tr_ret ?_
        have hr := Option.some.inj H
        subst hr
        subst hA
        exact rfl
      · obtain ⟨t35_5, rfl⟩ : ∃ v, v = x := ⟨x, rfl⟩
        replace H : FlushTrue_L1 t0_1 r_4 t35_5 = some r1 := H
        unfold FlushTrue_L1 at H
        refine tr_seq ?_
        refine tr_rg hP tabOk hsp fun A hA M hM => ?_
        cbv
        refine hM _ ?_
        refine tr_seq ?_
        refine tr_keep [2, 7, 8, 35, 36] (σ' := mkSl 88 0 [(2, .val (.box (.st [.st [.int .i64, .int .u8], .int .u8, .arr 6 (.list (.int .i64))])) (.b .n) t0_1), (7, .val (.box (.st [.st [.int .i64, .int .u8], .int .u8, .arr 6 (.list (.int .i64))])) (.b (.s [.n, .n, (.a (.l .n))])) r_4.1), (8, .val (.box (.arr 6 (.list (.int .i64)))) (.b (.a (.l .n))) r_4.2.1), (35, .val (.int .i64) .n t35_5), (36, .val (.bool) .n (decide (t35_5 < (6 : Int))))]) (by subst hA; rfl) ?_
        clear hM hA M A
        refine tr_cond rfl (fun hc => ?_) (fun hc => ?_)
        · replace H := if_t H hc
          refine tr_keep [2, 7, 8, 35] (σ' := mkSl 88 0 [(2, .val (.box (.st [.st [.int .i64, .int .u8], .int .u8, .arr 6 (.list (.int .i64))])) (.b .n) t0_1), (7, .val (.box (.st [.st [.int .i64, .int .u8], .int .u8, .arr 6 (.list (.int .i64))])) (.b (.s [.n, .n, (.a (.l .n))])) r_4.1), (8, .val (.box (.arr 6 (.list (.int .i64)))) (.b (.a (.l .n))) r_4.2.1), (35, .val (.int .i64) .n t35_5)]) rfl ?_
          refine tr_skip ?_
          refine tr_seq ?_
          refine tr_block ?_
          refine tr_seq ?_
          refine tr_rg hP tabOk hsp fun A hA M hM => ?_
          cbv
          refine hM _ ?_
          refine tr_seq ?_
          refine tr_keep [2, 7, 8, 9, 35] (σ' := mkSl 88 0 [(2, .val (.box (.st [.st [.int .i64, .int .u8], .int .u8, .arr 6 (.list (.int .i64))])) (.b .n) t0_1), (7, .val (.box (.st [.st [.int .i64, .int .u8], .int .u8, .arr 6 (.list (.int .i64))])) (.b (.s [.n, .n, (.a (.l .n))])) r_4.1), (8, .val (.box (.arr 6 (.list (.int .i64)))) (.b (.a (.l .n))) r_4.2.1), (9, .val (.int .i64) .n t35_5), (35, .val (.int .i64) .n t35_5)]) (by subst hA; rfl) ?_
          clear hM hA M A
          refine tr_rg hP tabOk hsp fun A hA M hM => ?_
          cbv
          obtain ⟨ob1, H⟩ := ck_out H
          refine ⟨by subst hA; exact ob1, hM _ ?_⟩
          refine tr_block ?_
          refine tr_keepL [2, 7, 8, 35, 40, 41, 42] (fun t41_7 : Int => mkSl 88 0 [(2, .val (.box (.st [.st [.int .i64, .int .u8], .int .u8, .arr 6 (.list (.int .i64))])) (.b .n) t0_1), (7, .val (.box (.st [.st [.int .i64, .int .u8], .int .u8, .arr 6 (.list (.int .i64))])) (.b (.s [.n, .n, (.a (.l .n))])) r_4.1), (8, .val (.box (.arr 6 (.list (.int .i64)))) (.b (.a (.l .n))) r_4.2.1), (35, .val (.int .i64) .n t35_5), (40, .bor 8 [.d, .i t35_5]), (41, .val (.int .i64) .n t41_7), (42, .val (.int .i64) .n (0 : Int))]) H (by subst hA; rfl) (fun t41_7 H => ?_)
          clear ob1 hM hA M A
          obtain ⟨q, hq, Hl, Hr⟩ := bindE_out H
          refine tr_loopE 2 (fun x : Int => FlushTrue_L2 t0_1 r_4 t35_5 t41_7 x) (fun x : Int => mkSl 88 0 [(2, .val (.box (.st [.st [.int .i64, .int .u8], .int .u8, .arr 6 (.list (.int .i64))])) (.b .n) t0_1), (7, .val (.box (.st [.st [.int .i64, .int .u8], .int .u8, .arr 6 (.list (.int .i64))])) (.b (.s [.n, .n, (.a (.l .n))])) r_4.1), (8, .val (.box (.arr 6 (.list (.int .i64)))) (.b (.a (.l .n))) r_4.2.1), (35, .val (.int .i64) .n t35_5), (40, .bor 8 [.d, .i t35_5]), (41, .val (.int .i64) .n t41_7), (42, .val (.int .i64) .n x)]) [2, 7, 8, 35, 40, 41, 42] (fun q_9 : Unit => mkSl 88 0 [(2, .val (.box (.st [.st [.int .i64, .int .u8], .int .u8, .arr 6 (.list (.int .i64))])) (.b .n) t0_1), (7, .val (.box (.st [.st [.int .i64, .int .u8], .int .u8, .arr 6 (.list (.int .i64))])) (.b (.s [.n, .n, (.a (.l .n))])) r_4.1), (8, .val (.box (.arr 6 (.list (.int .i64)))) (.b (.a (.l .n))) r_4.2.1), (35, .val (.int .i64) .n t35_5)]) [2, 7, 8, 35] hq rfl Hr (fun q_9 hl σ' h => ?_) (fun x r2 H => ?_)
          · replace H := Hl q_9 hl
            refine tr_keep [2, 7, 8, 35] h ?_
            refine tr_rg hP tabOk hsp fun A hA M hM => ?_
            cbv
            refine hM _ ?_
            exact Exists.intro _ (And.intro (Option.some.inj H).symm (by subst hA; rfl))
          · obtain ⟨t42_8, rfl⟩ : ∃ v, v = x := ⟨x, rfl⟩
            replace H : FlushTrue_L2 t0_1 r_4 t35_5 t41_7 t42_8 = some r2 := H
            unfold FlushTrue_L2 at H
            refine tr_seq ?_
            refine tr_rg hP tabOk hsp fun A hA M hM => ?_
            cbv
            refine hM _ ?_
            refine tr_seq ?_
            refine tr_keep [2, 7, 8, 35, 40, 41, 42, 43] (σ' := mkSl 88 0 [(2, .val (.box (.st [.st [.int .i64, .int .u8], .int .u8, .arr 6 (.list (.int .i64))])) (.b .n) t0_1), (7, .val (.box (.st [.st [.int .i64, .int .u8], .int .u8, .arr 6 (.list (.int .i64))])) (.b (.s [.n, .n, (.a (.l .n))])) r_4.1), (8, .val (.box (.arr 6 (.list (.int .i64)))) (.b (.a (.l .n))) r_4.2.1), (35, .val (.int .i64) .n t35_5), (40, .bor 8 [.d, .i t35_5]), (41, .val (.int .i64) .n t41_7), (42, .val (.int .i64) .n t42_8), (43, .val (.bool) .n (decide (t42_8 < t41_7)))]) (by subst hA; rfl) ?_
            clear hM hA M A
            refine tr_cond rfl (fun hc => ?_) (fun hc => ?_)
            · replace H := if_t H hc
              refine tr_keep [2, 7, 8, 35, 40, 41, 42] (σ' := mkSl 88 0 [(2, .val (.box (.st [.st [.int .i64, .int .u8], .int .u8, .arr 6 (.list (.int .i64))])) (.b .n) t0_1), (7, .val (.box (.st [.st [.int .i64, .int .u8], .int .u8, .arr 6 (.list (.int .i64))])) (.b (.s [.n, .n, (.a (.l .n))])) r_4.1), (8, .val (.box (.arr 6 (.list (.int .i64)))) (.b (.a (.l .n))) r_4.2.1), (35, .val (.int .i64) .n t35_5), (40, .bor 8 [.d, .i t35_5]), (41, .val (.int .i64) .n t41_7), (42, .val (.int .i64) .n t42_8)]) rfl ?_
              refine tr_skip ?_
              refine tr_seq ?_
              refine tr_block ?_
              refine tr_seq ?_
              refine tr_rg hP tabOk hsp fun A hA M hM => ?_
              cbv
              obtain ⟨ob1, H⟩ := ck_out H
              refine ⟨by subst hA; exact ob1, hM _ ?_⟩
              refine tr_seq ?_
              refine tr_keepL [2, 7, 8, 11, 35, 40, 41, 42] (fun t11_10 : Int => mkSl 88 0 [(2, .val (.box (.st [.st [.int .i64, .int .u8], .int .u8, .arr 6 (.list (.int .i64))])) (.b .n) t0_1), (7, .val (.box (.st [.st [.int .i64, .int .u8], .int .u8, .arr 6 (.list (.int .i64))])) (.b (.s [.n, .n, (.a (.l .n))])) r_4.1), (8, .val (.box (.arr 6 (.list (.int .i64)))) (.b (.a (.l .n))) r_4.2.1), (11, .val (.int .i64) .n t11_10), (35, .val (.int .i64) .n t35_5), (40, .bor 8 [.d, .i t35_5]), (41, .val (.int .i64) .n t41_7), (42, .val (.int .i64) .n t42_8)]) H (by subst hA; rfl) (fun t11_10 H => ?_)
              clear ob1 hM hA M A
              refine tr_rg hP tabOk hsp fun A hA M hM => ?_
              cbv
              refine hM _ ?_
              refine tr_seq ?_
              refine tr_seq ?_
              refine tr_keep [2, 7, 8, 11, 12, 35, 40, 41, 42] (σ' := mkSl 88 0 [(2, .val (.box (.st [.st [.int .i64, .int .u8], .int .u8, .arr 6 (.list (.int .i64))])) (.b .n) t0_1), (7, .val (.box (.st [.st [.int .i64, .int .u8], .int .u8, .arr 6 (.list (.int .i64))])) (.b (.s [.n, .n, (.a (.l .n))])) r_4.1), (8, .val (.box (.arr 6 (.list (.int .i64)))) (.b (.a (.l .n))) r_4.2.1), (11, .val (.int .i64) .n t11_10), (12, .val (.bool) .n false), (35, .val (.int .i64) .n t35_5), (40, .bor 8 [.d, .i t35_5]), (41, .val (.int .i64) .n t41_7), (42, .val (.int .i64) .n t42_8)]) (by subst hA; rfl) ?_
              clear hM hA M A
              refine tr_rg hP tabOk hsp fun A hA M hM => ?_
              cbv
              refine hM _ ?_
              refine tr_block ?_
              refine tr_keep [2, 7, 8, 11, 12, 35, 40, 41, 42, 46] (σ' := mkSl 88 0 [(2, .val (.box (.st [.st [.int .i64, .int .u8], .int .u8, .arr 6 (.list (.int .i64))])) (.b .n) t0_1), (7, .val (.box (.st [.st [.int .i64, .int .u8], .int .u8, .arr 6 (.list (.int .i64))])) (.b (.s [.n, .n, (.a (.l .n))])) r_4.1), (8, .val (.box (.arr 6 (.list (.int .i64)))) (.b (.a (.l .n))) r_4.2.1), (11, .val (.int .i64) .n t11_10), (12, .val (.bool) .n false), (35, .val (.int .i64) .n t35_5), (40, .bor 8 [.d, .i t35_5]), (41, .val (.int .i64) .n t41_7), (42, .val (.int .i64) .n t42_8), (46, .val (.int .i64) .n (0 : Int))]) (by subst hA; rfl) ?_
              clear hM hA M A
              obtain ⟨q_14, hq, H⟩ := bind_out H
              refine tr_loopB 4 (fun x : Bool × Int => FlushTrue_L3 t0_1 t11_10 x.1 x.2) (fun x : Bool × Int => mkSl 88 0 [(2, .val (.box (.st [.st [.int .i64, .int .u8], .int .u8, .arr 6 (.list (.int .i64))])) (.b .n) t0_1), (7, .val (.box (.st [.st [.int .i64, .int .u8], .int .u8, .arr 6 (.list (.int .i64))])) (.b (.s [.n, .n, (.a (.l .n))])) r_4.1), (8, .val (.box (.arr 6 (.list (.int .i64)))) (.b (.a (.l .n))) r_4.2.1), (11, .val (.int .i64) .n t11_10), (12, .val (.bool) .n x.1), (35, .val (.int .i64) .n t35_5), (40, .bor 8 [.d, .i t35_5]), (41, .val (.int .i64) .n t41_7), (42, .val (.int .i64) .n t42_8), (46, .val (.int .i64) .n x.2)]) [2, 7, 8, 11, 12, 35, 40, 41, 42, 46] (fun q_14 : Bool => mkSl 88 0 [(2, .val (.box (.st [.st [.int .i64, .int .u8], .int .u8, .arr 6 (.list (.int .i64))])) (.b .n) t0_1), (7, .val (.box (.st [.st [.int .i64, .int .u8], .int .u8, .arr 6 (.list (.int .i64))])) (.b (.s [.n, .n, (.a (.l .n))])) r_4.1), (8, .val (.box (.arr 6 (.list (.int .i64)))) (.b (.a (.l .n))) r_4.2.1), (12, .val (.bool) .n q_14), (35, .val (.int .i64) .n t35_5), (40, .bor 8 [.d, .i t35_5]), (41, .val (.int .i64) .n t41_7), (42, .val (.int .i64) .n t42_8)]) [2, 7, 8, 12, 35, 40, 41, 42] hq rfl (fun σ' h => ?_) (fun x r3 H => ?_)
              · refine tr_keep [2, 7, 8, 12, 35, 40, 41, 42] h ?_
                refine tr_seq ?_
                refine tr_rg hP tabOk hsp fun A hA M hM => ?_
                cbv
                refine hM _ ?_
                refine tr_keep [2, 7, 8, 35, 40, 41, 42, 72] (σ' := mkSl 88 0 [(2, .val (.box (.st [.st [.int .i64, .int .u8], .int .u8, .arr 6 (.list (.int .i64))])) (.b .n) t0_1), (7, .val (.box (.st [.st [.int .i64, .int .u8], .int .u8, .arr 6 (.list (.int .i64))])) (.b (.s [.n, .n, (.a (.l .n))])) r_4.1), (8, .val (.box (.arr 6 (.list (.int .i64)))) (.b (.a (.l .n))) r_4.2.1), (35, .val (.int .i64) .n t35_5), (40, .bor 8 [.d, .i t35_5]), (41, .val (.int .i64) .n t41_7), (42, .val (.int .i64) .n t42_8), (72, .val (.bool) .n (!q_14))]) (by subst hA; rfl) ?_
                clear hM hA M A
                refine tr_cond rfl (fun hc => ?_) (fun hc => ?_)
                · replace H := if_t H hc
                  refine tr_keep [2, 7, 8, 35, 40, 41, 42] (σ' := mkSl 88 0 [(2, .val (.box (.st [.st [.int .i64, .int .u8], .int .u8, .arr 6 (.list (.int .i64))])) (.b .n) t0_1), (7, .val (.box (.st [.st [.int .i64, .int .u8], .int .u8, .arr 6 (.list (.int .i64))])) (.b (.s [.n, .n, (.a (.l .n))])) r_4.1), (8, .val (.box (.arr 6 (.list (.int .i64)))) (.b (.a (.l .n))) r_4.2.1), (35, .val (.int .i64) .n t35_5), (40, .bor 8 [.d, .i t35_5]), (41, .val (.int .i64) .n t41_7), (42, .val (.int .i64) .n t42_8)]) rfl ?_
                  refine tr_seq ?_
                  refine tr_rg hP tabOk hsp fun A hA M hM => ?_
                  cbv
                  refine hM _ ?_
                  refine tr_ret ?_
                  have hr := Option.some.inj H
                  refine Exists.intro _ (And.intro hr.symm (fun hr => ?_))
                  refine Exists.intro _ (And.intro hr.symm (fun hr => ?_))
                  subst hr
                  subst hA
                  exact rfl
                · replace H := if_f H hc
                  refine tr_keep [2, 7, 8, 35, 40, 41, 42] (σ' := mkSl 88 0 [(2, .val (.box (.st [.st [.int .i64, .int .u8], .int .u8, .arr 6 (.list (.int .i64))])) (.b .n) t0_1), (7, .val (.box (.st [.st [.int .i64, .int .u8], .int .u8, .arr 6 (.list (.int .i64))])) (.b (.s [.n, .n, (.a (.l .n))])) r_4.1), (8, .val (.box (.arr 6 (.list (.int .i64)))) (.b (.a (.l .n))) r_4.2.1), (35, .val (.int .i64) .n t35_5), (40, .bor 8 [.d, .i t35_5]), (41, .val (.int .i64) .n t41_7), (42, .val (.int .i64) .n t42_8)]) rfl ?_
                  refine tr_skip ?_
                  refine tr_rg hP tabOk hsp fun A hA M hM => ?_
                  cbv
                  refine hM _ ?_
                  exact Exists.intro _ (And.intro (Option.some.inj H).symm (by subst hA; rfl))
              · obtain ⟨t12_11, t46_12⟩ := x
                replace H : FlushTrue_L3 t0_1 t11_10 t12_11 t46_12 = some r3 := H
                unfold FlushTrue_L3 at H
                refine tr_seq ?_
                refine tr_rg hP tabOk hsp fun A hA M hM => ?_
                cbv
                refine hM _ ?_
                refine tr_seq ?_
                refine tr_keep [2, 7, 8, 11, 12, 35, 40, 41, 42, 46, 47] (σ' := mkSl 88 0 [(2, .val (.box (.st [.st [.int .i64, .int .u8], .int .u8, .arr 6 (.list (.int .i64))])) (.b .n) t0_1), (7, .val (.box (.st [.st [.int .i64, .int .u8], .int .u8, .arr 6 (.list (.int .i64))])) (.b (.s [.n, .n, (.a (.l .n))])) r_4.1), (8, .val (.box (.arr 6 (.list (.int .i64)))) (.b (.a (.l .n))) r_4.2.1), (11, .val (.int .i64) .n t11_10), (12, .val (.bool) .n t12_11), (35, .val (.int .i64) .n t35_5), (40, .bor 8 [.d, .i t35_5]), (41, .val (.int .i64) .n t41_7), (42, .val (.int .i64) .n t42_8), (46, .val (.int .i64) .n t46_12), (47, .val (.bool) .n (decide (t46_12 < (6 : Int))))]) (by subst hA; rfl) ?_
                clear hM hA M A
                refine tr_cond rfl (fun hc => ?_) (fun hc => ?_)
                · replace H := if_t H hc
                  refine tr_keep [2, 7, 8, 11, 12, 35, 40, 41, 42, 46] (σ' := mkSl 88 0 [(2, .val (.box (.st [.st [.int .i64, .int .u8], .int .u8, .arr 6 (.list (.int .i64))])) (.b .n) t0_1), (7, .val (.box (.st [.st [.int .i64, .int .u8], .int .u8, .arr 6 (.list (.int .i64))])) (.b (.s [.n, .n, (.a (.l .n))])) r_4.1), (8, .val (.box (.arr 6 (.list (.int .i64)))) (.b (.a (.l .n))) r_4.2.1), (11, .val (.int .i64) .n t11_10), (12, .val (.bool) .n t12_11), (35, .val (.int .i64) .n t35_5), (40, .bor 8 [.d, .i t35_5]), (41, .val (.int .i64) .n t41_7), (42, .val (.int .i64) .n t42_8), (46, .val (.int .i64) .n t46_12)]) rfl ?_
                  refine tr_skip ?_
                  refine tr_seq ?_
                  refine tr_block ?_
                  refine tr_seq ?_
                  refine tr_rg hP tabOk hsp fun A hA M hM => ?_
                  cbv
                  refine hM _ ?_
                  refine tr_keep [2, 7, 8, 11, 12, 13, 35, 40, 41, 42, 46] (σ' := mkSl 88 0 [(2, .val (.box (.st [.st [.int .i64, .int .u8], .int .u8, .arr 6 (.list (.int .i64))])) (.b .n) t0_1), (7, .val (.box (.st [.st [.int .i64, .int .u8], .int .u8, .arr 6 (.list (.int .i64))])) (.b (.s [.n, .n, (.a (.l .n))])) r_4.1), (8, .val (.box (.arr 6 (.list (.int .i64)))) (.b (.a (.l .n))) r_4.2.1), (11, .val (.int .i64) .n t11_10), (12, .val (.bool) .n t12_11), (13, .val (.int .i64) .n t46_12), (35, .val (.int .i64) .n t35_5), (40, .bor 8 [.d, .i t35_5]), (41, .val (.int .i64) .n t41_7), (42, .val (.int .i64) .n t42_8), (46, .val (.int .i64) .n t46_12)]) (by subst hA; rfl) ?_
                  clear hM hA M A
                  refine tr_rg hP tabOk hsp fun A hA M hM => ?_
                  cbv
                  obtain ⟨ob1, H⟩ := ck_out H
                  obtain ⟨ob2, H⟩ := ck_out H
                  obtain ⟨r_15, er3, H⟩ := letO_out H
                  obtain ⟨ob3, H⟩ := ck_out H
                  have eq3 := er3.trans hd9
                  refine ⟨by subst hA; exact ob1, by subst hA; exact ob2, by subst hA; subst eq3; exact fun h0 h1 => hi9 (ob3 h0 h1), hM _ ?_⟩
                  refine tr_keepL [2, 7, 8, 11, 12, 35, 40, 41, 42, 46] (fun t12_16 : Bool => mkSl 88 0 [(2, .val (.box (.st [.st [.int .i64, .int .u8], .int .u8, .arr 6 (.list (.int .i64))])) (.b .n) t0_1), (7, .val (.box (.st [.st [.int .i64, .int .u8], .int .u8, .arr 6 (.list (.int .i64))])) (.b (.s [.n, .n, (.a (.l .n))])) r_4.1), (8, .val (.box (.arr 6 (.list (.int .i64)))) (.b (.a (.l .n))) r_4.2.1), (11, .val (.int .i64) .n t11_10), (12, .val (.bool) .n t12_16), (35, .val (.int .i64) .n t35_5), (40, .bor 8 [.d, .i t35_5]), (41, .val (.int .i64) .n t41_7), (42, .val (.int .i64) .n t42_8), (46, .val (.int .i64) .n t46_12)]) H (by subst hA; subst eq3; rfl) (fun t12_16 H => ?_)
                  clear ob3 eq3 er3 ob2 ob1 hM hA M A
                  refine tr_rg hP tabOk hsp fun A hA M hM => ?_
                  cbv
                  refine hM _ ?_
                  exact Exists.intro _ (And.intro (Option.some.inj H).symm (by subst hA; rfl))
                · replace H := if_f H hc
                  refine tr_keep [2, 7, 8, 11, 12, 35, 40, 41, 42, 46] (σ' := mkSl 88 0 [(2, .val (.box (.st [.st [.int .i64, .int .u8], .int .u8, .arr 6 (.list (.int .i64))])) (.b .n) t0_1), (7, .val (.box (.st [.st [.int .i64, .int .u8], .int .u8, .arr 6 (.list (.int .i64))])) (.b (.s [.n, .n, (.a (.l .n))])) r_4.1), (8, .val (.box (.arr 6 (.list (.int .i64)))) (.b (.a (.l .n))) r_4.2.1), (11, .val (.int .i64) .n t11_10), (12, .val (.bool) .n t12_11), (35, .val (.int .i64) .n t35_5), (40, .bor 8 [.d, .i t35_5]), (41, .val (.int .i64) .n t41_7), (42, .val (.int .i64) .n t42_8), (46, .val (.int .i64) .n t46_12)]) rfl ?_
                  refine tr_exit ?_
                  exact And.intro rfl (Exists.intro _ (And.intro (Option.some.inj H).symm (by rfl)))
            · replace H := if_f H hc
              refine tr_keep [2, 7, 8, 35, 40, 41, 42] (σ' := mkSl 88 0 [(2, .val (.box (.st [.st [.int .i64, .int .u8], .int .u8, .arr 6 (.list (.int .i64))])) (.b .n) t0_1), (7, .val (.box (.st [.st [.int .i64, .int .u8], .int .u8, .arr 6 (.list (.int .i64))])) (.b (.s [.n, .n, (.a (.l .n))])) r_4.1), (8, .val (.box (.arr 6 (.list (.int .i64)))) (.b (.a (.l .n))) r_4.2.1), (35, .val (.int .i64) .n t35_5), (40, .bor 8 [.d, .i t35_5]), (41, .val (.int .i64) .n t41_7), (42, .val (.int .i64) .n t42_8)]) rfl ?_
              refine tr_exit ?_
              exact And.intro rfl (Exists.intro _ (And.intro (Option.some.inj H).symm (by rfl)))
        · replace H := if_f H hc
          refine tr_keep [2, 7, 8, 35] (σ' := mkSl 88 0 [(2, .val (.box (.st [.st [.int .i64, .int .u8], .int .u8, .arr 6 (.list (.int .i64))])) (.b .n) t0_1), (7, .val (.box (.st [.st [.int .i64, .int .u8], .int .u8, .arr 6 (.list (.int .i64))])) (.b (.s [.n, .n, (.a (.l .n))])) r_4.1), (8, .val (.box (.arr 6 (.list (.int .i64)))) (.b (.a (.l .n))) r_4.2.1), (35, .val (.int .i64) .n t35_5)]) rfl ?_
          refine tr_exit ?_
          exact And.intro rfl (Exists.intro _ (And.intro (Option.some.inj H).symm (by rfl)))
theorem FlushTrue_sp : ∃ (pg : PT.denL [.st [.st [.int .i64, .int .u8], .int .u8, .arr 6 (.list (.int .i64))], .int .u8] → Prop) (fg : PT.denL [.st [.st [.int .i64, .int .u8], .int .u8, .arr 6 (.list (.int .i64))], .int .u8] → PT.denL [.bool]), SpecRuns Try.prog 3 ⟨[.st [.st [.int .i64, .int .u8], .int .u8, .arr 6 (.list (.int .i64))], .int .u8], [.v, .v], [.bool], [.n], pg, fg⟩ ∧ (∀ {a1 : ((Int × Int × Unit) × Int × List (List Int) × Unit)} {a2 : Int} {y : Bool}, FlushTrue a1 a2 = some y → pg (a1, a2, ()) ∧ y = (fg (a1, a2, ())).1) ∧ (∀ {a1 : ((Int × Int × Unit) × Int × List (List Int) × Unit)} {a2 : Int}, (FlushTrue a1 a2).isSome = true → pg (a1, a2, ())) ∧ ∀ {a1 : ((Int × Int × Unit) × Int × List (List Int) × Unit)} {a2 : Int}, (FlushTrue a1 a2).getD false = (fg (a1, a2, ())).1 := by
  obtain ⟨pg, fg, h, hc, hi, hd⟩ := spec_hide FlushTrue_runs
  refine ⟨pg, fg, h, ?_, ?_, ?_⟩
  · intro a1 a2 y e
    obtain ⟨h1, h2⟩ := hc (a1, a2, ()) (y, ()) (congrArg (Option.map fun r => (r, ())) e)
    exact ⟨h1, by first | (rw [h2]; done) | (rw [h2]; rfl)⟩
  · intro a1 a2
    intro e
    exact hi (a1, a2, ()) (map_isSome e)
  · intro a1 a2
    rw [hd (a1, a2, ())]
    cases FlushTrue a1 a2 <;> rfl
end Go.Proofs.Ythjbflbcdohooaa.Fl
