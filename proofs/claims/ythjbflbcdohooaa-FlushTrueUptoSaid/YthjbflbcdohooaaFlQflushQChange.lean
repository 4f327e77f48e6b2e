/- Functions of the program as functions that may fail, and that the code computes them (printed). Each theorem bears its conditions itself. -/
import Derived.Test.YthjbflbcdohooaaFlDefs
import Derived.Test.YthjbflbcdohooaaFlTab
import Derived.Test.YthjbflbcdohooaaFlQflushQCheck
import Derived.Test.YthjbflbcdohooaaFlQviewQNext
import Derived.Test.YthjbflbcdohooaaFlQslicesQContainsQLintQint
open Go Go.Proofs.Ythjbflbcdohooaa.Sy Go.Proofs
set_option maxHeartbeats 4000000
set_option maxRecDepth 100000
set_option cbv.maxSteps 10000000
set_option linter.unusedVariables false
set_option linter.unusedSimpArgs false
namespace Go.Proofs.Ythjbflbcdohooaa.Fl
theorem flush_Change_runs : SpecRuns Try.prog 8 (oSpec [.st [.st [.int .i64, .int .u8], .int .u8, .arr 6 (.list (.int .i64))], .int .u8] [.v, .v] [.st [.st [.int .i64, .int .u8], .int .u8, .arr 6 (.list (.int .i64))], .arr 6 (.list (.int .i64)), .int .i64] [.s [.n, .n, (.a (.l .n))], .a (.l .n), .n] fun x => (flush_Change x.1 x.2.1).map fun r => (r.1, r.2.1, r.2.2, ())) := by
  obtain ⟨pg12, fg12, hs12, hc12, hi12, hd12⟩ := flush_Check_sp
  obtain ⟨pg23, fg23, hs23, hc23, hi23, hd23⟩ := view_Next_sp
  obtain ⟨pg9, fg9, hs9, hc9, hi9, hd9⟩ := slices_Contains_Lint_int_sp
  have hsp : SpecsOk Try.prog [(12, ⟨[.st [.st [.int .i64, .int .u8], .int .u8, .arr 6 (.list (.int .i64))]], [.v], [.int .i64], [.n], pg12, fg12⟩), (23, ⟨[.st [.int .i64, .int .u8], .int .u8, .int .u8], [.v, .v, .v], [.st [.int .i64, .int .u8], .int .i64], [.n, .n], pg23, fg23⟩), (9, ⟨[.list (.int .i64), .int .i64], [.v, .v], [.bool], [.n], pg9, fg9⟩)] := (specsOk_cons Try.func12 (by kernel_rfl) (by kernel_rfl) hs12 (specsOk_cons Try.func23 (by kernel_rfl) (by kernel_rfl) hs23 (specsOk_cons Try.func9 (by kernel_rfl) (by kernel_rfl) hs9 specsOk_nil)))
  refine runs_of_o tabOk Try.func8 rfl (Nat.le_of_ble_eq_true rfl) rfl ?_
  rintro E ⟨(t0_1 : ((Int × Int × Unit) × Int × List (List Int) × Unit)), (t1_2 : Int), ⟨⟩⟩ y hP H hw
  obtain ⟨z, H1, rfl⟩ := map_out H
  replace H : flush_Change t0_1 t1_2 = some z := H1
  clear hw H1
  unfold flush_Change at H
  refine tr_keep [0, 1] (σ' := mkSl 108 0 [(0, .val (.st [.st [.int .i64, .int .u8], .int .u8, .arr 6 (.list (.int .i64))]) .n t0_1), (1, .val (.int .u8) .n t1_2)]) rfl ?_
  refine tr_seq ?_
  refine tr_rg hP tabOk hsp fun A hA M hM => ?_
  cbv
  refine hM _ ?_
  refine tr_seq ?_
  refine tr_keepL [1, 2, 4, 5] (fun t4_3 : List (List Int) => mkSl 108 0 [(1, .val (.int .u8) .n t1_2), (2, .val (.box (.st [.st [.int .i64, .int .u8], .int .u8, .arr 6 (.list (.int .i64))])) (.b .n) t0_1), (4, .val (.box (.st [.st [.int .i64, .int .u8], .int .u8, .arr 6 (.list (.int .i64))])) (.b (.s [.n, .n, (.a (.l .n))])) (((0 : Int), (0 : Int), ()), (0 : Int), t4_3, ())), (5, .val (.box (.arr 6 (.list (.int .i64)))) (.b (.a (.l .n))) t4_3)]) H (by subst hA; rfl) (fun t4_3 H => ?_)
  clear hM hA M A
  refine tr_rg hP tabOk hsp fun A hA M hM => ?_
  cbv
  refine hM _ ?_
  refine tr_seq ?_
  refine tr_seq ?_
  refine tr_keepL [1, 2, 4, 5, 7] (fun t7_4 : List (List Int) => mkSl 108 0 [(1, .val (.int .u8) .n t1_2), (2, .val (.box (.st [.st [.int .i64, .int .u8], .int .u8, .arr 6 (.list (.int .i64))])) (.b .n) t0_1), (4, .val (.box (.st [.st [.int .i64, .int .u8], .int .u8, .arr 6 (.list (.int .i64))])) (.b (.s [.n, .n, (.a (.l .n))])) (((0 : Int), (0 : Int), ()), (0 : Int), t4_3, ())), (5, .val (.box (.arr 6 (.list (.int .i64)))) (.b (.a (.l .n))) t4_3), (7, .val (.box (.arr 6 (.list (.int .i64)))) (.b (.a (.l .n))) t7_4)]) H (by subst hA; rfl) (fun t7_4 H => ?_)
  clear hM hA M A
  refine tr_rg hP tabOk hsp fun A hA M hM => ?_
  cbv
  obtain ⟨r_5, hr1, H⟩ := bind_out H
  obtain ⟨pq1, eq1⟩ := hc12 hr1
  refine ⟨by subst hA; subst eq1; exact pq1, hM _ ?_⟩
  refine tr_seq ?_
  refine tr_keep [1, 2, 4, 5, 7, 8] (σ' := mkSl 108 0 [(1, .val (.int .u8) .n t1_2), (2, .val (.box (.st [.st [.int .i64, .int .u8], .int .u8, .arr 6 (.list (.int .i64))])) (.b .n) t0_1), (4, .val (.box (.st [.st [.int .i64, .int .u8], .int .u8, .arr 6 (.list (.int .i64))])) (.b (.s [.n, .n, (.a (.l .n))])) (((0 : Int), (0 : Int), ()), (0 : Int), t4_3, ())), (5, .val (.box (.arr 6 (.list (.int .i64)))) (.b (.a (.l .n))) t4_3), (7, .val (.box (.arr 6 (.list (.int .i64)))) (.b (.a (.l .n))) t7_4), (8, .val (.int .i64) .n r_5)]) (by subst hA; subst eq1; rfl) ?_
  clear pq1 eq1 hr1 hM hA M A
  refine tr_rg hP tabOk hsp fun A hA M hM => ?_
  cbv
  refine hM _ ?_
  refine tr_keep [1, 2, 4, 5, 7, 8, 22] (σ' := mkSl 108 0 [(1, .val (.int .u8) .n t1_2), (2, .val (.box (.st [.st [.int .i64, .int .u8], .int .u8, .arr 6 (.list (.int .i64))])) (.b .n) t0_1), (4, .val (.box (.st [.st [.int .i64, .int .u8], .int .u8, .arr 6 (.list (.int .i64))])) (.b (.s [.n, .n, (.a (.l .n))])) (((0 : Int), (0 : Int), ()), (0 : Int), t4_3, ())), (5, .val (.box (.arr 6 (.list (.int .i64)))) (.b (.a (.l .n))) t4_3), (7, .val (.box (.arr 6 (.list (.int .i64)))) (.b (.a (.l .n))) t7_4), (8, .val (.int .i64) .n r_5), (22, .val (.bool) .n (r_5 != (0 : Int)))]) (by subst hA; rfl) ?_
  clear hM hA M A
  refine tr_cond rfl (fun hc => ?_) (fun hc => ?_)
  · replace H := if_t H hc
    refine tr_keep [1, 2, 4, 5, 7, 8] (σ' := mkSl 108 0 [(1, .val (.int .u8) .n t1_2), (2, .val (.box (.st [.st [.int .i64, .int .u8], .int .u8, .arr 6 (.list (.int .i64))])) (.b .n) t0_1), (4, .val (.box (.st [.st [.int .i64, .int .u8], .int .u8, .arr 6 (.list (.int .i64))])) (.b (.s [.n, .n, (.a (.l .n))])) (((0 : Int), (0 : Int), ()), (0 : Int), t4_3, ())), (5, .val (.box (.arr 6 (.list (.int .i64)))) (.b (.a (.l .n))) t4_3), (7, .val (.box (.arr 6 (.list (.int .i64)))) (.b (.a (.l .n))) t7_4), (8, .val (.int .i64) .n r_5)]) rfl ?_
    refine tr_seq ?_
    refine tr_rg hP tabOk hsp fun A hA M hM => ?_
    cbv
    refine hM _ ?_
    refine tr_ret ?_
    have hr := Option.some.inj H
    subst hr
    subst hA
    exact rfl
  · replace H := if_f H hc
    refine tr_keep [1, 2, 4, 5, 7, 8] (σ' := mkSl 108 0 [(1, .val (.int .u8) .n t1_2), (2, .val (.box (.st [.st [.int .i64, .int .u8], .int .u8, .arr 6 (.list (.int .i64))])) (.b .n) t0_1), (4, .val (.box (.st [.st [.int .i64, .int .u8], .int .u8, .arr 6 (.list (.int .i64))])) (.b (.s [.n, .n, (.a (.l .n))])) (((0 : Int), (0 : Int), ()), (0 : Int), t4_3, ())), (5, .val (.box (.arr 6 (.list (.int .i64)))) (.b (.a (.l .n))) t4_3), (7, .val (.box (.arr 6 (.list (.int .i64)))) (.b (.a (.l .n))) t7_4), (8, .val (.int .i64) .n r_5)]) rfl ?_
    refine tr_skip ?_
    refine tr_seq ?_
    refine tr_rg hP tabOk hsp fun A hA M hM => ?_
    cbv
    obtain ⟨r_6, hr1, H⟩ := bind_out H
    obtain ⟨pq1, eq1⟩ := hc23 hr1
    refine ⟨by subst hA; subst eq1; exact pq1, hM _ ?_⟩
    refine tr_seq ?_
    refine tr_seq ?_
    refine tr_keep [2, 4, 5, 7, 9, 10] (σ' := mkSl 108 0 [(2, .val (.box (.st [.st [.int .i64, .int .u8], .int .u8, .arr 6 (.list (.int .i64))])) (.b .n) t0_1), (4, .val (.box (.st [.st [.int .i64, .int .u8], .int .u8, .arr 6 (.list (.int .i64))])) (.b (.s [.n, .n, (.a (.l .n))])) (((0 : Int), (0 : Int), ()), (0 : Int), t4_3, ())), (5, .val (.box (.arr 6 (.list (.int .i64)))) (.b (.a (.l .n))) t4_3), (7, .val (.box (.arr 6 (.list (.int .i64)))) (.b (.a (.l .n))) t7_4), (9, .val (.box (.st [.int .i64, .int .u8])) (.b .n) r_6.1), (10, .val (.int .i64) .n r_6.2)]) (by subst hA; subst eq1; rfl) ?_
    clear pq1 eq1 hr1 hM hA M A
    refine tr_rg hP tabOk hsp fun A hA M hM => ?_
    cbv
    refine hM _ ?_
    refine tr_keep [2, 4, 5, 7, 9, 10, 36] (σ' := mkSl 108 0 [(2, .val (.box (.st [.st [.int .i64, .int .u8], .int .u8, .arr 6 (.list (.int .i64))])) (.b .n) t0_1), (4, .val (.box (.st [.st [.int .i64, .int .u8], .int .u8, .arr 6 (.list (.int .i64))])) (.b (.s [.n, .n, (.a (.l .n))])) (((0 : Int), (0 : Int), ()), (0 : Int), t4_3, ())), (5, .val (.box (.arr 6 (.list (.int .i64)))) (.b (.a (.l .n))) t4_3), (7, .val (.box (.arr 6 (.list (.int .i64)))) (.b (.a (.l .n))) t7_4), (9, .val (.box (.st [.int .i64, .int .u8])) (.b .n) r_6.1), (10, .val (.int .i64) .n r_6.2), (36, .val (.bool) .n (r_6.2 != (0 : Int)))]) (by subst hA; rfl) ?_
    clear hM hA M A
    refine tr_cond rfl (fun hc => ?_) (fun hc => ?_)
    · replace H := if_t H hc
      refine tr_keep [2, 4, 5, 7, 9, 10] (σ' := mkSl 108 0 [(2, .val (.box (.st [.st [.int .i64, .int .u8], .int .u8, .arr 6 (.list (.int .i64))])) (.b .n) t0_1), (4, .val (.box (.st [.st [.int .i64, .int .u8], .int .u8, .arr 6 (.list (.int .i64))])) (.b (.s [.n, .n, (.a (.l .n))])) (((0 : Int), (0 : Int), ()), (0 : Int), t4_3, ())), (5, .val (.box (.arr 6 (.list (.int .i64)))) (.b (.a (.l .n))) t4_3), (7, .val (.box (.arr 6 (.list (.int .i64)))) (.b (.a (.l .n))) t7_4), (9, .val (.box (.st [.int .i64, .int .u8])) (.b .n) r_6.1), (10, .val (.int .i64) .n r_6.2)]) rfl ?_
      refine tr_seq ?_
      refine tr_rg hP tabOk hsp fun A hA M hM => ?_
      cbv
      refine hM _ ?_
      refine tr_ret ?_
      have hr := Option.some.inj H
      subst hr
      subst hA
      exact rfl
    · replace H := if_f H hc
      refine tr_keep [2, 4, 5, 7, 9, 10] (σ' := mkSl 108 0 [(2, .val (.box (.st [.st [.int .i64, .int .u8], .int .u8, .arr 6 (.list (.int .i64))])) (.b .n) t0_1), (4, .val (.box (.st [.st [.int .i64, .int .u8], .int .u8, .arr 6 (.list (.int .i64))])) (.b (.s [.n, .n, (.a (.l .n))])) (((0 : Int), (0 : Int), ()), (0 : Int), t4_3, ())), (5, .val (.box (.arr 6 (.list (.int .i64)))) (.b (.a (.l .n))) t4_3), (7, .val (.box (.arr 6 (.list (.int .i64)))) (.b (.a (.l .n))) t7_4), (9, .val (.box (.st [.int .i64, .int .u8])) (.b .n) r_6.1), (10, .val (.int .i64) .n r_6.2)]) rfl ?_
      refine tr_skip ?_
      refine tr_seq ?_
      refine tr_rg hP tabOk hsp fun A hA M hM => ?_
      cbv
      refine hM _ ?_
      refine tr_seq ?_
      refine tr_seq ?_
      refine tr_keepL [2, 4, 5, 7, 9, 11] (fun t11_7 : List Bool => mkSl 108 0 [(2, .val (.box (.st [.st [.int .i64, .int .u8], .int .u8, .arr 6 (.list (.int .i64))])) (.b .n) t0_1), (4, .val (.box (.st [.st [.int .i64, .int .u8], .int .u8, .arr 6 (.list (.int .i64))])) (.b (.s [.n, .n, (.a (.l .n))])) (((0 : Int), (0 : Int), ()), (0 : Int), t4_3, ())), (5, .val (.box (.arr 6 (.list (.int .i64)))) (.b (.a (.l .n))) t4_3), (7, .val (.box (.arr 6 (.list (.int .i64)))) (.b (.a (.l .n))) t7_4), (9, .val (.box (.st [.int .i64, .int .u8])) (.b .n) r_6.1), (11, .val (.box (.arr 30 (.bool))) (.b .n) t11_7)]) H (by subst hA; rfl) (fun t11_7 H => ?_)
      clear hM hA M A
      refine tr_rg hP tabOk hsp fun A hA M hM => ?_
      cbv
      refine hM _ ?_
      refine tr_block ?_
      refine tr_keep [2, 4, 5, 7, 9, 11, 41, 42] (σ' := mkSl 108 0 [(2, .val (.box (.st [.st [.int .i64, .int .u8], .int .u8, .arr 6 (.list (.int .i64))])) (.b .n) t0_1), (4, .val (.box (.st [.st [.int .i64, .int .u8], .int .u8, .arr 6 (.list (.int .i64))])) (.b (.s [.n, .n, (.a (.l .n))])) (((0 : Int), (0 : Int), ()), (0 : Int), t4_3, ())), (5, .val (.box (.arr 6 (.list (.int .i64)))) (.b (.a (.l .n))) t4_3), (7, .val (.box (.arr 6 (.list (.int .i64)))) (.b (.a (.l .n))) t7_4), (9, .val (.box (.st [.int .i64, .int .u8])) (.b .n) r_6.1), (11, .val (.box (.arr 30 (.bool))) (.b .n) t11_7), (41, .val (.arr 6 (.list (.int .i64))) .n t0_1.2.2.1), (42, .val (.int .i64) .n (0 : Int))]) (by subst hA; rfl) ?_
      clear hM hA M A
      obtain ⟨q_11, hq, H⟩ := bind_out H
      refine tr_loopB 0 (fun x : List Bool × Int => flush_Change_L1 t0_1 x.1 x.2) (fun x : List Bool × Int => mkSl 108 0 [(2, .val (.box (.st [.st [.int .i64, .int .u8], .int .u8, .arr 6 (.list (.int .i64))])) (.b .n) t0_1), (4, .val (.box (.st [.st [.int .i64, .int .u8], .int .u8, .arr 6 (.list (.int .i64))])) (.b (.s [.n, .n, (.a (.l .n))])) (((0 : Int), (0 : Int), ()), (0 : Int), t4_3, ())), (5, .val (.box (.arr 6 (.list (.int .i64)))) (.b (.a (.l .n))) t4_3), (7, .val (.box (.arr 6 (.list (.int .i64)))) (.b (.a (.l .n))) t7_4), (9, .val (.box (.st [.int .i64, .int .u8])) (.b .n) r_6.1), (11, .val (.box (.arr 30 (.bool))) (.b .n) x.1), (41, .val (.arr 6 (.list (.int .i64))) .n t0_1.2.2.1), (42, .val (.int .i64) .n x.2)]) [2, 4, 5, 7, 9, 11, 41, 42] (fun q_11 : List Bool => mkSl 108 0 [(2, .val (.box (.st [.st [.int .i64, .int .u8], .int .u8, .arr 6 (.list (.int .i64))])) (.b .n) t0_1), (4, .val (.box (.st [.st [.int .i64, .int .u8], .int .u8, .arr 6 (.list (.int .i64))])) (.b (.s [.n, .n, (.a (.l .n))])) (((0 : Int), (0 : Int), ()), (0 : Int), t4_3, ())), (5, .val (.box (.arr 6 (.list (.int .i64)))) (.b (.a (.l .n))) t4_3), (7, .val (.box (.arr 6 (.list (.int .i64)))) (.b (.a (.l .n))) t7_4), (9, .val (.box (.st [.int .i64, .int .u8])) (.b .n) r_6.1), (11, .val (.box (.arr 30 (.bool))) (.b .n) q_11)]) [2, 4, 5, 7, 9, 11] hq rfl (fun σ' h => ?_) (fun x r1 H => ?_)
      · refine tr_keep [2, 4, 5, 7, 9, 11] h ?_
        refine tr_seq ?_
        refine tr_seq ?_
        refine tr_rg hP tabOk hsp fun A hA M hM => ?_
        cbv
        refine hM _ ?_
        refine tr_block ?_
        refine tr_keep [2, 4, 5, 7, 9, 11, 67] (σ' := mkSl 108 0 [(2, .val (.box (.st [.st [.int .i64, .int .u8], .int .u8, .arr 6 (.list (.int .i64))])) (.b .n) t0_1), (4, .val (.box (.st [.st [.int .i64, .int .u8], .int .u8, .arr 6 (.list (.int .i64))])) (.b (.s [.n, .n, (.a (.l .n))])) (((0 : Int), (0 : Int), ()), (0 : Int), t4_3, ())), (5, .val (.box (.arr 6 (.list (.int .i64)))) (.b (.a (.l .n))) t4_3), (7, .val (.box (.arr 6 (.list (.int .i64)))) (.b (.a (.l .n))) t7_4), (9, .val (.box (.st [.int .i64, .int .u8])) (.b .n) r_6.1), (11, .val (.box (.arr 30 (.bool))) (.b .n) q_11), (67, .val (.int .i64) .n (0 : Int))]) (by subst hA; rfl) ?_
        clear hM hA M A
        obtain ⟨q_23, hq, H⟩ := bind_out H
        refine tr_loopB 4 (fun x : List (List Int) × Int => flush_Change_L3 t0_1 q_11 x.1 x.2) (fun x : List (List Int) × Int => mkSl 108 0 [(2, .val (.box (.st [.st [.int .i64, .int .u8], .int .u8, .arr 6 (.list (.int .i64))])) (.b .n) t0_1), (4, .val (.box (.st [.st [.int .i64, .int .u8], .int .u8, .arr 6 (.list (.int .i64))])) (.b (.s [.n, .n, (.a (.l .n))])) (((0 : Int), (0 : Int), ()), (0 : Int), t4_3, ())), (5, .val (.box (.arr 6 (.list (.int .i64)))) (.b (.a (.l .n))) t4_3), (7, .val (.box (.arr 6 (.list (.int .i64)))) (.b (.a (.l .n))) x.1), (9, .val (.box (.st [.int .i64, .int .u8])) (.b .n) r_6.1), (11, .val (.box (.arr 30 (.bool))) (.b .n) q_11), (67, .val (.int .i64) .n x.2)]) [2, 4, 5, 7, 9, 11, 67] (fun q_23 : List (List Int) => mkSl 108 0 [(4, .val (.box (.st [.st [.int .i64, .int .u8], .int .u8, .arr 6 (.list (.int .i64))])) (.b (.s [.n, .n, (.a (.l .n))])) (((0 : Int), (0 : Int), ()), (0 : Int), t4_3, ())), (5, .val (.box (.arr 6 (.list (.int .i64)))) (.b (.a (.l .n))) t4_3), (7, .val (.box (.arr 6 (.list (.int .i64)))) (.b (.a (.l .n))) q_23), (9, .val (.box (.st [.int .i64, .int .u8])) (.b .n) r_6.1)]) [4, 5, 7, 9] hq rfl (fun σ' h => ?_) (fun x r3 H => ?_)
        · refine tr_keep [4, 5, 7, 9] h ?_
          refine tr_seq ?_
          refine tr_rg hP tabOk hsp fun A hA M hM => ?_
          cbv
          refine hM _ ?_
          refine tr_ret ?_
          have hr := Option.some.inj H
          subst hr
          subst hA
          exact rfl
        · obtain ⟨t7_20, t67_21⟩ := x
          replace H : flush_Change_L3 t0_1 q_11 t7_20 t67_21 = some r3 := H
          unfold flush_Change_L3 at H
          refine tr_seq ?_
          refine tr_rg hP tabOk hsp fun A hA M hM => ?_
          cbv
          refine hM _ ?_
          refine tr_seq ?_
          refine tr_keep [2, 4, 5, 7, 9, 11, 67, 68] (σ' := mkSl 108 0 [(2, .val (.box (.st [.st [.int .i64, .int .u8], .int .u8, .arr 6 (.list (.int .i64))])) (.b .n) t0_1), (4, .val (.box (.st [.st [.int .i64, .int .u8], .int .u8, .arr 6 (.list (.int .i64))])) (.b (.s [.n, .n, (.a (.l .n))])) (((0 : Int), (0 : Int), ()), (0 : Int), t4_3, ())), (5, .val (.box (.arr 6 (.list (.int .i64)))) (.b (.a (.l .n))) t4_3), (7, .val (.box (.arr 6 (.list (.int .i64)))) (.b (.a (.l .n))) t7_20), (9, .val (.box (.st [.int .i64, .int .u8])) (.b .n) r_6.1), (11, .val (.box (.arr 30 (.bool))) (.b .n) q_11), (67, .val (.int .i64) .n t67_21), (68, .val (.bool) .n (decide (t67_21 < (6 : Int))))]) (by subst hA; rfl) ?_
          clear hM hA M A
          refine tr_cond rfl (fun hc => ?_) (fun hc => ?_)
          · replace H := if_t H hc
            refine tr_keep [2, 4, 5, 7, 9, 11, 67] (σ' := mkSl 108 0 [(2, .val (.box (.st [.st [.int .i64, .int .u8], .int .u8, .arr 6 (.list (.int .i64))])) (.b .n) t0_1), (4, .val (.box (.st [.st [.int .i64, .int .u8], .int .u8, .arr 6 (.list (.int .i64))])) (.b (.s [.n, .n, (.a (.l .n))])) (((0 : Int), (0 : Int), ()), (0 : Int), t4_3, ())), (5, .val (.box (.arr 6 (.list (.int .i64)))) (.b (.a (.l .n))) t4_3), (7, .val (.box (.arr 6 (.list (.int .i64)))) (.b (.a (.l .n))) t7_20), (9, .val (.box (.st [.int .i64, .int .u8])) (.b .n) r_6.1), (11, .val (.box (.arr 30 (.bool))) (.b .n) q_11), (67, .val (.int .i64) .n t67_21)]) rfl ?_
            refine tr_skip ?_
            refine tr_seq ?_
            refine tr_block ?_
            refine tr_seq ?_
            refine tr_rg hP tabOk hsp fun A hA M hM => ?_
            cbv
            refine hM _ ?_
            refine tr_seq ?_
            refine tr_seq ?_
            refine tr_keep [2, 4, 5, 7, 9, 11, 16, 67] (σ' := mkSl 108 0 [(2, .val (.box (.st [.st [.int .i64, .int .u8], .int .u8, .arr 6 (.list (.int .i64))])) (.b .n) t0_1), (4, .val (.box (.st [.st [.int .i64, .int .u8], .int .u8, .arr 6 (.list (.int .i64))])) (.b (.s [.n, .n, (.a (.l .n))])) (((0 : Int), (0 : Int), ()), (0 : Int), t4_3, ())), (5, .val (.box (.arr 6 (.list (.int .i64)))) (.b (.a (.l .n))) t4_3), (7, .val (.box (.arr 6 (.list (.int .i64)))) (.b (.a (.l .n))) t7_20), (9, .val (.box (.st [.int .i64, .int .u8])) (.b .n) r_6.1), (11, .val (.box (.arr 30 (.bool))) (.b .n) q_11), (16, .val (.int .i64) .n t67_21), (67, .val (.int .i64) .n t67_21)]) (by subst hA; rfl) ?_
            clear hM hA M A
            refine tr_rg hP tabOk hsp fun A hA M hM => ?_
            cbv
            obtain ⟨ob1, H⟩ := ck_out H
            refine ⟨by subst hA; exact ob1, hM _ ?_⟩
            refine tr_keep [2, 4, 5, 7, 9, 11, 16, 67, 79] (σ' := mkSl 108 0 [(2, .val (.box (.st [.st [.int .i64, .int .u8], .int .u8, .arr 6 (.list (.int .i64))])) (.b .n) t0_1), (4, .val (.box (.st [.st [.int .i64, .int .u8], .int .u8, .arr 6 (.list (.int .i64))])) (.b (.s [.n, .n, (.a (.l .n))])) (((0 : Int), (0 : Int), ()), (0 : Int), t4_3, ())), (5, .val (.box (.arr 6 (.list (.int .i64)))) (.b (.a (.l .n))) t4_3), (7, .val (.box (.arr 6 (.list (.int .i64)))) (.b (.a (.l .n))) t7_20), (9, .val (.box (.st [.int .i64, .int .u8])) (.b .n) r_6.1), (11, .val (.box (.arr 30 (.bool))) (.b .n) q_11), (16, .val (.int .i64) .n t67_21), (67, .val (.int .i64) .n t67_21), (79, .val (.bool) .n ((arR .and .u8 (arR .shr .u8 (arR .andNot .u8 t0_1.1.2.1 t0_1.2.1) t67_21) (1 : Int)) == (0 : Int)))]) (by subst hA; rfl) ?_
            clear ob1 hM hA M A
            refine tr_cond rfl (fun hc => ?_) (fun hc => ?_)
            · replace H := if_t H hc
              refine tr_keep [2, 4, 5, 7, 9, 11, 16, 67] (σ' := mkSl 108 0 [(2, .val (.box (.st [.st [.int .i64, .int .u8], .int .u8, .arr 6 (.list (.int .i64))])) (.b .n) t0_1), (4, .val (.box (.st [.st [.int .i64, .int .u8], .int .u8, .arr 6 (.list (.int .i64))])) (.b (.s [.n, .n, (.a (.l .n))])) (((0 : Int), (0 : Int), ()), (0 : Int), t4_3, ())), (5, .val (.box (.arr 6 (.list (.int .i64)))) (.b (.a (.l .n))) t4_3), (7, .val (.box (.arr 6 (.list (.int .i64)))) (.b (.a (.l .n))) t7_20), (9, .val (.box (.st [.int .i64, .int .u8])) (.b .n) r_6.1), (11, .val (.box (.arr 30 (.bool))) (.b .n) q_11), (16, .val (.int .i64) .n t67_21), (67, .val (.int .i64) .n t67_21)]) rfl ?_
              refine tr_exit ?_
              refine tr_rg hP tabOk hsp fun A hA M hM => ?_
              cbv
              refine hM _ ?_
              exact Exists.intro _ (And.intro (Option.some.inj H).symm (by subst hA; rfl))
            · replace H := if_f H hc
              refine tr_keep [2, 4, 5, 7, 9, 11, 16, 67] (σ' := mkSl 108 0 [(2, .val (.box (.st [.st [.int .i64, .int .u8], .int .u8, .arr 6 (.list (.int .i64))])) (.b .n) t0_1), (4, .val (.box (.st [.st [.int .i64, .int .u8], .int .u8, .arr 6 (.list (.int .i64))])) (.b (.s [.n, .n, (.a (.l .n))])) (((0 : Int), (0 : Int), ()), (0 : Int), t4_3, ())), (5, .val (.box (.arr 6 (.list (.int .i64)))) (.b (.a (.l .n))) t4_3), (7, .val (.box (.arr 6 (.list (.int .i64)))) (.b (.a (.l .n))) t7_20), (9, .val (.box (.st [.int .i64, .int .u8])) (.b .n) r_6.1), (11, .val (.box (.arr 30 (.bool))) (.b .n) q_11), (16, .val (.int .i64) .n t67_21), (67, .val (.int .i64) .n t67_21)]) rfl ?_
              refine tr_skip ?_
              refine tr_seq ?_
              refine tr_rg hP tabOk hsp fun A hA M hM => ?_
              cbv
              refine hM _ ?_
              refine tr_block ?_
              refine tr_keep [2, 4, 5, 7, 9, 11, 16, 67, 80, 81] (σ' := mkSl 108 0 [(2, .val (.box (.st [.st [.int .i64, .int .u8], .int .u8, .arr 6 (.list (.int .i64))])) (.b .n) t0_1), (4, .val (.box (.st [.st [.int .i64, .int .u8], .int .u8, .arr 6 (.list (.int .i64))])) (.b (.s [.n, .n, (.a (.l .n))])) (((0 : Int), (0 : Int), ()), (0 : Int), t4_3, ())), (5, .val (.box (.arr 6 (.list (.int .i64)))) (.b (.a (.l .n))) t4_3), (7, .val (.box (.arr 6 (.list (.int .i64)))) (.b (.a (.l .n))) t7_20), (9, .val (.box (.st [.int .i64, .int .u8])) (.b .n) r_6.1), (11, .val (.box (.arr 30 (.bool))) (.b .n) q_11), (16, .val (.int .i64) .n t67_21), (67, .val (.int .i64) .n t67_21), (80, .val (.arr 30 (.bool)) .n q_11), (81, .val (.int .i64) .n (0 : Int))]) (by subst hA; rfl) ?_
              clear hM hA M A
              obtain ⟨q_27, hq, H⟩ := bind_out H
              refine tr_loopB 6 (fun x : List (List Int) × Int => flush_Change_L4 t0_1 q_11 t67_21 x.1 x.2) (fun x : List (List Int) × Int => mkSl 108 0 [(2, .val (.box (.st [.st [.int .i64, .int .u8], .int .u8, .arr 6 (.list (.int .i64))])) (.b .n) t0_1), (4, .val (.box (.st [.st [.int .i64, .int .u8], .int .u8, .arr 6 (.list (.int .i64))])) (.b (.s [.n, .n, (.a (.l .n))])) (((0 : Int), (0 : Int), ()), (0 : Int), t4_3, ())), (5, .val (.box (.arr 6 (.list (.int .i64)))) (.b (.a (.l .n))) t4_3), (7, .val (.box (.arr 6 (.list (.int .i64)))) (.b (.a (.l .n))) x.1), (9, .val (.box (.st [.int .i64, .int .u8])) (.b .n) r_6.1), (11, .val (.box (.arr 30 (.bool))) (.b .n) q_11), (16, .val (.int .i64) .n t67_21), (67, .val (.int .i64) .n t67_21), (80, .val (.arr 30 (.bool)) .n q_11), (81, .val (.int .i64) .n x.2)]) [2, 4, 5, 7, 9, 11, 16, 67, 80, 81] (fun q_27 : List (List Int) => mkSl 108 0 [(2, .val (.box (.st [.st [.int .i64, .int .u8], .int .u8, .arr 6 (.list (.int .i64))])) (.b .n) t0_1), (4, .val (.box (.st [.st [.int .i64, .int .u8], .int .u8, .arr 6 (.list (.int .i64))])) (.b (.s [.n, .n, (.a (.l .n))])) (((0 : Int), (0 : Int), ()), (0 : Int), t4_3, ())), (5, .val (.box (.arr 6 (.list (.int .i64)))) (.b (.a (.l .n))) t4_3), (7, .val (.box (.arr 6 (.list (.int .i64)))) (.b (.a (.l .n))) q_27), (9, .val (.box (.st [.int .i64, .int .u8])) (.b .n) r_6.1), (11, .val (.box (.arr 30 (.bool))) (.b .n) q_11), (67, .val (.int .i64) .n t67_21)]) [2, 4, 5, 7, 9, 11, 67] hq rfl (fun σ' h => ?_) (fun x r4 H => ?_)
              · refine tr_keep [2, 4, 5, 7, 9, 11, 67] h ?_
                refine tr_rg hP tabOk hsp fun A hA M hM => ?_
                cbv
                refine hM _ ?_
                exact Exists.intro _ (And.intro (Option.some.inj H).symm (by subst hA; rfl))
              · obtain ⟨t7_24, t81_25⟩ := x
                replace H : flush_Change_L4 t0_1 q_11 t67_21 t7_24 t81_25 = some r4 := H
                unfold flush_Change_L4 at H
                refine tr_seq ?_
                refine tr_rg hP tabOk hsp fun A hA M hM => ?_
                cbv
                refine hM _ ?_
                refine tr_seq ?_
                refine tr_keep [2, 4, 5, 7, 9, 11, 16, 67, 80, 81, 82] (σ' := mkSl 108 0 [(2, .val (.box (.st [.st [.int .i64, .int .u8], .int .u8, .arr 6 (.list (.int .i64))])) (.b .n) t0_1), (4, .val (.box (.st [.st [.int .i64, .int .u8], .int .u8, .arr 6 (.list (.int .i64))])) (.b (.s [.n, .n, (.a (.l .n))])) (((0 : Int), (0 : Int), ()), (0 : Int), t4_3, ())), (5, .val (.box (.arr 6 (.list (.int .i64)))) (.b (.a (.l .n))) t4_3), (7, .val (.box (.arr 6 (.list (.int .i64)))) (.b (.a (.l .n))) t7_24), (9, .val (.box (.st [.int .i64, .int .u8])) (.b .n) r_6.1), (11, .val (.box (.arr 30 (.bool))) (.b .n) q_11), (16, .val (.int .i64) .n t67_21), (67, .val (.int .i64) .n t67_21), (80, .val (.arr 30 (.bool)) .n q_11), (81, .val (.int .i64) .n t81_25), (82, .val (.bool) .n (decide (t81_25 < (30 : Int))))]) (by subst hA; rfl) ?_
                clear hM hA M A
                refine tr_cond rfl (fun hc => ?_) (fun hc => ?_)
                · replace H := if_t H hc
                  refine tr_keep [2, 4, 5, 7, 9, 11, 16, 67, 80, 81] (σ' := mkSl 108 0 [(2, .val (.box (.st [.st [.int .i64, .int .u8], .int .u8, .arr 6 (.list (.int .i64))])) (.b .n) t0_1), (4, .val (.box (.st [.st [.int .i64, .int .u8], .int .u8, .arr 6 (.list (.int .i64))])) (.b (.s [.n, .n, (.a (.l .n))])) (((0 : Int), (0 : Int), ()), (0 : Int), t4_3, ())), (5, .val (.box (.arr 6 (.list (.int .i64)))) (.b (.a (.l .n))) t4_3), (7, .val (.box (.arr 6 (.list (.int .i64)))) (.b (.a (.l .n))) t7_24), (9, .val (.box (.st [.int .i64, .int .u8])) (.b .n) r_6.1), (11, .val (.box (.arr 30 (.bool))) (.b .n) q_11), (16, .val (.int .i64) .n t67_21), (67, .val (.int .i64) .n t67_21), (80, .val (.arr 30 (.bool)) .n q_11), (81, .val (.int .i64) .n t81_25)]) rfl ?_
                  refine tr_skip ?_
                  refine tr_seq ?_
                  refine tr_block ?_
                  refine tr_seq ?_
                  refine tr_rg hP tabOk hsp fun A hA M hM => ?_
                  cbv
                  obtain ⟨ob1, H⟩ := ck_out H
                  refine ⟨by subst hA; exact ob1, hM _ ?_⟩
                  refine tr_seq ?_
                  refine tr_keepL [2, 4, 5, 7, 9, 11, 16, 17, 18, 67, 80, 81] (fun t18_28 : Bool => mkSl 108 0 [(2, .val (.box (.st [.st [.int .i64, .int .u8], .int .u8, .arr 6 (.list (.int .i64))])) (.b .n) t0_1), (4, .val (.box (.st [.st [.int .i64, .int .u8], .int .u8, .arr 6 (.list (.int .i64))])) (.b (.s [.n, .n, (.a (.l .n))])) (((0 : Int), (0 : Int), ()), (0 : Int), t4_3, ())), (5, .val (.box (.arr 6 (.list (.int .i64)))) (.b (.a (.l .n))) t4_3), (7, .val (.box (.arr 6 (.list (.int .i64)))) (.b (.a (.l .n))) t7_24), (9, .val (.box (.st [.int .i64, .int .u8])) (.b .n) r_6.1), (11, .val (.box (.arr 30 (.bool))) (.b .n) q_11), (16, .val (.int .i64) .n t67_21), (17, .val (.int .i64) .n t81_25), (18, .val (.bool) .n t18_28), (67, .val (.int .i64) .n t67_21), (80, .val (.arr 30 (.bool)) .n q_11), (81, .val (.int .i64) .n t81_25)]) H (by subst hA; rfl) (fun t18_28 H => ?_)
                  clear ob1 hM hA M A
                  refine tr_rg hP tabOk hsp fun A hA M hM => ?_
                  cbv
                  obtain ⟨ob1, H⟩ := ck_out H
                  obtain ⟨r_29, er2, H⟩ := letO_out H
                  obtain ⟨ob2, H⟩ := ck_out H
                  have eq2 := er2.trans hd9
                  refine ⟨by subst hA; exact ob1, by subst hA; subst eq2; exact fun h0 => hi9 (ob2 h0), hM _ ?_⟩
                  refine tr_keep [2, 4, 5, 7, 9, 11, 16, 17, 67, 80, 81, 94] (σ' := mkSl 108 0 [(2, .val (.box (.st [.st [.int .i64, .int .u8], .int .u8, .arr 6 (.list (.int .i64))])) (.b .n) t0_1), (4, .val (.box (.st [.st [.int .i64, .int .u8], .int .u8, .arr 6 (.list (.int .i64))])) (.b (.s [.n, .n, (.a (.l .n))])) (((0 : Int), (0 : Int), ()), (0 : Int), t4_3, ())), (5, .val (.box (.arr 6 (.list (.int .i64)))) (.b (.a (.l .n))) t4_3), (7, .val (.box (.arr 6 (.list (.int .i64)))) (.b (.a (.l .n))) t7_24), (9, .val (.box (.st [.int .i64, .int .u8])) (.b .n) r_6.1), (11, .val (.box (.arr 30 (.bool))) (.b .n) q_11), (16, .val (.int .i64) .n t67_21), (17, .val (.int .i64) .n t81_25), (67, .val (.int .i64) .n t67_21), (80, .val (.arr 30 (.bool)) .n q_11), (81, .val (.int .i64) .n t81_25), (94, .val (.bool) .n (t18_28 && (!r_29)))]) (by subst hA; subst eq2; rfl) ?_
                  clear ob2 eq2 er2 ob1 hM hA M A
                  refine tr_join (z := r4) (fun y : List (List Int) => flush_Change_J5 t81_25 y) (fun y : List (List Int) => mkSl 108 0 [(2, .val (.box (.st [.st [.int .i64, .int .u8], .int .u8, .arr 6 (.list (.int .i64))])) (.b .n) t0_1), (4, .val (.box (.st [.st [.int .i64, .int .u8], .int .u8, .arr 6 (.list (.int .i64))])) (.b (.s [.n, .n, (.a (.l .n))])) (((0 : Int), (0 : Int), ()), (0 : Int), t4_3, ())), (5, .val (.box (.arr 6 (.list (.int .i64)))) (.b (.a (.l .n))) t4_3), (7, .val (.box (.arr 6 (.list (.int .i64)))) (.b (.a (.l .n))) y), (9, .val (.box (.st [.int .i64, .int .u8])) (.b .n) r_6.1), (11, .val (.box (.arr 30 (.bool))) (.b .n) q_11), (16, .val (.int .i64) .n t67_21), (67, .val (.int .i64) .n t67_21), (80, .val (.arr 30 (.bool)) .n q_11), (81, .val (.int .i64) .n t81_25)]) [2, 4, 5, 7, 9, 11, 16, 67, 80, 81] (fun _ h => h) (fun y H => ?_) (fun hJ5 => ?_)
                  · obtain ⟨t7_30, rfl⟩ : ∃ v, v = y := ⟨y, rfl⟩
                    replace H : flush_Change_J5 t81_25 t7_30 = some r4 := H
                    unfold flush_Change_J5 at H
                    refine tr_rg hP tabOk hsp fun A hA M hM => ?_
                    cbv
                    refine hM _ ?_
                    exact Exists.intro _ (And.intro (Option.some.inj H).symm (by subst hA; rfl))
                  · refine tr_cond rfl (fun hc => ?_) (fun hc => ?_)
                    · replace H := if_t H hc
                      refine tr_keep [2, 4, 5, 7, 9, 11, 16, 17, 67, 80, 81] (σ' := mkSl 108 0 [(2, .val (.box (.st [.st [.int .i64, .int .u8], .int .u8, .arr 6 (.list (.int .i64))])) (.b .n) t0_1), (4, .val (.box (.st [.st [.int .i64, .int .u8], .int .u8, .arr 6 (.list (.int .i64))])) (.b (.s [.n, .n, (.a (.l .n))])) (((0 : Int), (0 : Int), ()), (0 : Int), t4_3, ())), (5, .val (.box (.arr 6 (.list (.int .i64)))) (.b (.a (.l .n))) t4_3), (7, .val (.box (.arr 6 (.list (.int .i64)))) (.b (.a (.l .n))) t7_24), (9, .val (.box (.st [.int .i64, .int .u8])) (.b .n) r_6.1), (11, .val (.box (.arr 30 (.bool))) (.b .n) q_11), (16, .val (.int .i64) .n t67_21), (17, .val (.int .i64) .n t81_25), (67, .val (.int .i64) .n t67_21), (80, .val (.arr 30 (.bool)) .n q_11), (81, .val (.int .i64) .n t81_25)]) rfl ?_
                      refine tr_rg hP tabOk hsp fun A hA M hM => ?_
                      cbv
                      obtain ⟨ob1, H⟩ := ck_out H
                      obtain ⟨ob2, H⟩ := ck_out H
                      obtain ⟨ob3, H⟩ := ck_out H
                      refine ⟨by subst hA; exact ob1, by subst hA; exact ob2, by subst hA; exact ob3, hM _ ?_⟩
                      exact hJ5 (t7_24.set t67_21.toNat ((t7_24.getD t67_21.toNat ([] : List Int)) ++ [t81_25])) _ H (by subst hA; rfl)
                    · replace H := if_f H hc
                      refine tr_keep [2, 4, 5, 7, 9, 11, 16, 17, 67, 80, 81] (σ' := mkSl 108 0 [(2, .val (.box (.st [.st [.int .i64, .int .u8], .int .u8, .arr 6 (.list (.int .i64))])) (.b .n) t0_1), (4, .val (.box (.st [.st [.int .i64, .int .u8], .int .u8, .arr 6 (.list (.int .i64))])) (.b (.s [.n, .n, (.a (.l .n))])) (((0 : Int), (0 : Int), ()), (0 : Int), t4_3, ())), (5, .val (.box (.arr 6 (.list (.int .i64)))) (.b (.a (.l .n))) t4_3), (7, .val (.box (.arr 6 (.list (.int .i64)))) (.b (.a (.l .n))) t7_24), (9, .val (.box (.st [.int .i64, .int .u8])) (.b .n) r_6.1), (11, .val (.box (.arr 30 (.bool))) (.b .n) q_11), (16, .val (.int .i64) .n t67_21), (17, .val (.int .i64) .n t81_25), (67, .val (.int .i64) .n t67_21), (80, .val (.arr 30 (.bool)) .n q_11), (81, .val (.int .i64) .n t81_25)]) rfl ?_
                      refine tr_skip ?_
                      exact hJ5 t7_24 _ H (by rfl)
                · replace H := if_f H hc
                  refine tr_keep [2, 4, 5, 7, 9, 11, 16, 67, 80, 81] (σ' := mkSl 108 0 [(2, .val (.box (.st [.st [.int .i64, .int .u8], .int .u8, .arr 6 (.list (.int .i64))])) (.b .n) t0_1), (4, .val (.box (.st [.st [.int .i64, .int .u8], .int .u8, .arr 6 (.list (.int .i64))])) (.b (.s [.n, .n, (.a (.l .n))])) (((0 : Int), (0 : Int), ()), (0 : Int), t4_3, ())), (5, .val (.box (.arr 6 (.list (.int .i64)))) (.b (.a (.l .n))) t4_3), (7, .val (.box (.arr 6 (.list (.int .i64)))) (.b (.a (.l .n))) t7_24), (9, .val (.box (.st [.int .i64, .int .u8])) (.b .n) r_6.1), (11, .val (.box (.arr 30 (.bool))) (.b .n) q_11), (16, .val (.int .i64) .n t67_21), (67, .val (.int .i64) .n t67_21), (80, .val (.arr 30 (.bool)) .n q_11), (81, .val (.int .i64) .n t81_25)]) rfl ?_
                  refine tr_exit ?_
                  exact And.intro rfl (Exists.intro _ (And.intro (Option.some.inj H).symm (by rfl)))
          · replace H := if_f H hc
            refine tr_keep [2, 4, 5, 7, 9, 11, 67] (σ' := mkSl 108 0 [(2, .val (.box (.st [.st [.int .i64, .int .u8], .int .u8, .arr 6 (.list (.int .i64))])) (.b .n) t0_1), (4, .val (.box (.st [.st [.int .i64, .int .u8], .int .u8, .arr 6 (.list (.int .i64))])) (.b (.s [.n, .n, (.a (.l .n))])) (((0 : Int), (0 : Int), ()), (0 : Int), t4_3, ())), (5, .val (.box (.arr 6 (.list (.int .i64)))) (.b (.a (.l .n))) t4_3), (7, .val (.box (.arr 6 (.list (.int .i64)))) (.b (.a (.l .n))) t7_20), (9, .val (.box (.st [.int .i64, .int .u8])) (.b .n) r_6.1), (11, .val (.box (.arr 30 (.bool))) (.b .n) q_11), (67, .val (.int .i64) .n t67_21)]) rfl ?_
            refine tr_exit ?_
            exact And.intro rfl (Exists.intro _ (And.intro (Option.some.inj H).symm (by rfl)))
      · obtain ⟨t11_8, t42_9⟩ := x
        replace H : flush_Change_L1 t0_1 t11_8 t42_9 = some r1 := H
        unfold flush_Change_L1 at H
        refine tr_seq ?_
        refine tr_rg hP tabOk hsp fun A hA M hM => ?_
        cbv
        refine hM _ ?_
        refine tr_seq ?_
        refine tr_keep [2, 4, 5, 7, 9, 11, 41, 42, 43] (σ' := mkSl 108 0 [(2, .val (.box (.st [.st [.int .i64, .int .u8], .int .u8, .arr 6 (.list (.int .i64))])) (.b .n) t0_1), (4, .val (.box (.st [.st [.int .i64, .int .u8], .int .u8, .arr 6 (.list (.int .i64))])) (.b (.s [.n, .n, (.a (.l .n))])) (((0 : Int), (0 : Int), ()), (0 : Int), t4_3, ())), (5, .val (.box (.arr 6 (.list (.int .i64)))) (.b (.a (.l .n))) t4_3), (7, .val (.box (.arr 6 (.list (.int .i64)))) (.b (.a (.l .n))) t7_4), (9, .val (.box (.st [.int .i64, .int .u8])) (.b .n) r_6.1), (11, .val (.box (.arr 30 (.bool))) (.b .n) t11_8), (41, .val (.arr 6 (.list (.int .i64))) .n t0_1.2.2.1), (42, .val (.int .i64) .n t42_9), (43, .val (.bool) .n (decide (t42_9 < (6 : Int))))]) (by subst hA; rfl) ?_
        clear hM hA M A
        refine tr_cond rfl (fun hc => ?_) (fun hc => ?_)
        · replace H := if_t H hc
          refine tr_keep [2, 4, 5, 7, 9, 11, 41, 42] (σ' := mkSl 108 0 [(2, .val (.box (.st [.st [.int .i64, .int .u8], .int .u8, .arr 6 (.list (.int .i64))])) (.b .n) t0_1), (4, .val (.box (.st [.st [.int .i64, .int .u8], .int .u8, .arr 6 (.list (.int .i64))])) (.b (.s [.n, .n, (.a (.l .n))])) (((0 : Int), (0 : Int), ()), (0 : Int), t4_3, ())), (5, .val (.box (.arr 6 (.list (.int .i64)))) (.b (.a (.l .n))) t4_3), (7, .val (.box (.arr 6 (.list (.int .i64)))) (.b (.a (.l .n))) t7_4), (9, .val (.box (.st [.int .i64, .int .u8])) (.b .n) r_6.1), (11, .val (.box (.arr 30 (.bool))) (.b .n) t11_8), (41, .val (.arr 6 (.list (.int .i64))) .n t0_1.2.2.1), (42, .val (.int .i64) .n t42_9)]) rfl ?_
          refine tr_skip ?_
          refine tr_seq ?_
          refine tr_block ?_
          refine tr_seq ?_
          refine tr_rg hP tabOk hsp fun A hA M hM => ?_
          cbv
          obtain ⟨ob1, H⟩ := ck_out H
          refine ⟨by subst hA; exact ob1, hM _ ?_⟩
          refine tr_seq ?_
          refine tr_keepL [2, 4, 5, 7, 9, 11, 12, 13, 41, 42] (fun t13_12 : List Int => mkSl 108 0 [(2, .val (.box (.st [.st [.int .i64, .int .u8], .int .u8, .arr 6 (.list (.int .i64))])) (.b .n) t0_1), (4, .val (.box (.st [.st [.int .i64, .int .u8], .int .u8, .arr 6 (.list (.int .i64))])) (.b (.s [.n, .n, (.a (.l .n))])) (((0 : Int), (0 : Int), ()), (0 : Int), t4_3, ())), (5, .val (.box (.arr 6 (.list (.int .i64)))) (.b (.a (.l .n))) t4_3), (7, .val (.box (.arr 6 (.list (.int .i64)))) (.b (.a (.l .n))) t7_4), (9, .val (.box (.st [.int .i64, .int .u8])) (.b .n) r_6.1), (11, .val (.box (.arr 30 (.bool))) (.b .n) t11_8), (12, .val (.int .i64) .n t42_9), (13, .val (.list (.int .i64)) .n t13_12), (41, .val (.arr 6 (.list (.int .i64))) .n t0_1.2.2.1), (42, .val (.int .i64) .n t42_9)]) H (by subst hA; rfl) (fun t13_12 H => ?_)
          clear ob1 hM hA M A
          refine tr_rg hP tabOk hsp fun A hA M hM => ?_
          cbv
          refine hM _ ?_
          refine tr_block ?_
          refine tr_keepL [2, 4, 5, 7, 9, 11, 12, 13, 41, 42, 46, 47, 48] (fun t47_13 : Int => mkSl 108 0 [(2, .val (.box (.st [.st [.int .i64, .int .u8], .int .u8, .arr 6 (.list (.int .i64))])) (.b .n) t0_1), (4, .val (.box (.st [.st [.int .i64, .int .u8], .int .u8, .arr 6 (.list (.int .i64))])) (.b (.s [.n, .n, (.a (.l .n))])) (((0 : Int), (0 : Int), ()), (0 : Int), t4_3, ())), (5, .val (.box (.arr 6 (.list (.int .i64)))) (.b (.a (.l .n))) t4_3), (7, .val (.box (.arr 6 (.list (.int .i64)))) (.b (.a (.l .n))) t7_4), (9, .val (.box (.st [.int .i64, .int .u8])) (.b .n) r_6.1), (11, .val (.box (.arr 30 (.bool))) (.b .n) t11_8), (12, .val (.int .i64) .n t42_9), (13, .val (.list (.int .i64)) .n t13_12), (41, .val (.arr 6 (.list (.int .i64))) .n t0_1.2.2.1), (42, .val (.int .i64) .n t42_9), (46, .val (.list (.int .i64)) .n t13_12), (47, .val (.int .i64) .n t47_13), (48, .val (.int .i64) .n (0 : Int))]) H (by subst hA; rfl) (fun t47_13 H => ?_)
          clear hM hA M A
          obtain ⟨q_17, hq, H⟩ := bind_out H
          refine tr_loopB 2 (fun x : List Bool × Int => flush_Change_L2 t0_1 t42_9 t13_12 t47_13 x.1 x.2) (fun x : List Bool × Int => mkSl 108 0 [(2, .val (.box (.st [.st [.int .i64, .int .u8], .int .u8, .arr 6 (.list (.int .i64))])) (.b .n) t0_1), (4, .val (.box (.st [.st [.int .i64, .int .u8], .int .u8, .arr 6 (.list (.int .i64))])) (.b (.s [.n, .n, (.a (.l .n))])) (((0 : Int), (0 : Int), ()), (0 : Int), t4_3, ())), (5, .val (.box (.arr 6 (.list (.int .i64)))) (.b (.a (.l .n))) t4_3), (7, .val (.box (.arr 6 (.list (.int .i64)))) (.b (.a (.l .n))) t7_4), (9, .val (.box (.st [.int .i64, .int .u8])) (.b .n) r_6.1), (11, .val (.box (.arr 30 (.bool))) (.b .n) x.1), (12, .val (.int .i64) .n t42_9), (13, .val (.list (.int .i64)) .n t13_12), (41, .val (.arr 6 (.list (.int .i64))) .n t0_1.2.2.1), (42, .val (.int .i64) .n t42_9), (46, .val (.list (.int .i64)) .n t13_12), (47, .val (.int .i64) .n t47_13), (48, .val (.int .i64) .n x.2)]) [2, 4, 5, 7, 9, 11, 12, 13, 41, 42, 46, 47, 48] (fun q_17 : List Bool => mkSl 108 0 [(2, .val (.box (.st [.st [.int .i64, .int .u8], .int .u8, .arr 6 (.list (.int .i64))])) (.b .n) t0_1), (4, .val (.box (.st [.st [.int .i64, .int .u8], .int .u8, .arr 6 (.list (.int .i64))])) (.b (.s [.n, .n, (.a (.l .n))])) (((0 : Int), (0 : Int), ()), (0 : Int), t4_3, ())), (5, .val (.box (.arr 6 (.list (.int .i64)))) (.b (.a (.l .n))) t4_3), (7, .val (.box (.arr 6 (.list (.int .i64)))) (.b (.a (.l .n))) t7_4), (9, .val (.box (.st [.int .i64, .int .u8])) (.b .n) r_6.1), (11, .val (.box (.arr 30 (.bool))) (.b .n) q_17), (13, .val (.list (.int .i64)) .n t13_12), (41, .val (.arr 6 (.list (.int .i64))) .n t0_1.2.2.1), (42, .val (.int .i64) .n t42_9)]) [2, 4, 5, 7, 9, 11, 13, 41, 42] hq rfl (fun σ' h => ?_) (fun x r2 H => ?_)
          · refine tr_keep [2, 4, 5, 7, 9, 11, 13, 41, 42] h ?_
            refine tr_rg hP tabOk hsp fun A hA M hM => ?_
            cbv
            refine hM _ ?_
            exact Exists.intro _ (And.intro (Option.some.inj H).symm (by subst hA; rfl))
          · obtain ⟨t11_14, t48_15⟩ := x
            replace H : flush_Change_L2 t0_1 t42_9 t13_12 t47_13 t11_14 t48_15 = some r2 := H
            unfold flush_Change_L2 at H
            refine tr_seq ?_
            refine tr_rg hP tabOk hsp fun A hA M hM => ?_
            cbv
            refine hM _ ?_
            refine tr_seq ?_
            refine tr_keep [2, 4, 5, 7, 9, 11, 12, 13, 41, 42, 46, 47, 48, 49] (σ' := mkSl 108 0 [(2, .val (.box (.st [.st [.int .i64, .int .u8], .int .u8, .arr 6 (.list (.int .i64))])) (.b .n) t0_1), (4, .val (.box (.st [.st [.int .i64, .int .u8], .int .u8, .arr 6 (.list (.int .i64))])) (.b (.s [.n, .n, (.a (.l .n))])) (((0 : Int), (0 : Int), ()), (0 : Int), t4_3, ())), (5, .val (.box (.arr 6 (.list (.int .i64)))) (.b (.a (.l .n))) t4_3), (7, .val (.box (.arr 6 (.list (.int .i64)))) (.b (.a (.l .n))) t7_4), (9, .val (.box (.st [.int .i64, .int .u8])) (.b .n) r_6.1), (11, .val (.box (.arr 30 (.bool))) (.b .n) t11_14), (12, .val (.int .i64) .n t42_9), (13, .val (.list (.int .i64)) .n t13_12), (41, .val (.arr 6 (.list (.int .i64))) .n t0_1.2.2.1), (42, .val (.int .i64) .n t42_9), (46, .val (.list (.int .i64)) .n t13_12), (47, .val (.int .i64) .n t47_13), (48, .val (.int .i64) .n t48_15), (49, .val (.bool) .n (decide (t48_15 < t47_13)))]) (by subst hA; rfl) ?_
            clear hM hA M A
            refine tr_cond rfl (fun hc => ?_) (fun hc => ?_)
            · replace H := if_t H hc
              refine tr_keep [2, 4, 5, 7, 9, 11, 12, 13, 41, 42, 46, 47, 48] (σ' := mkSl 108 0 [(2, .val (.box (.st [.st [.int .i64, .int .u8], .int .u8, .arr 6 (.list (.int .i64))])) (.b .n) t0_1), (4, .val (.box (.st [.st [.int .i64, .int .u8], .int .u8, .arr 6 (.list (.int .i64))])) (.b (.s [.n, .n, (.a (.l .n))])) (((0 : Int), (0 : Int), ()), (0 : Int), t4_3, ())), (5, .val (.box (.arr 6 (.list (.int .i64)))) (.b (.a (.l .n))) t4_3), (7, .val (.box (.arr 6 (.list (.int .i64)))) (.b (.a (.l .n))) t7_4), (9, .val (.box (.st [.int .i64, .int .u8])) (.b .n) r_6.1), (11, .val (.box (.arr 30 (.bool))) (.b .n) t11_14), (12, .val (.int .i64) .n t42_9), (13, .val (.list (.int .i64)) .n t13_12), (41, .val (.arr 6 (.list (.int .i64))) .n t0_1.2.2.1), (42, .val (.int .i64) .n t42_9), (46, .val (.list (.int .i64)) .n t13_12), (47, .val (.int .i64) .n t47_13), (48, .val (.int .i64) .n t48_15)]) rfl ?_
              refine tr_skip ?_
              refine tr_seq ?_
              refine tr_block ?_
              refine tr_seq ?_
              refine tr_rg hP tabOk hsp fun A hA M hM => ?_
              cbv
              obtain ⟨ob1, H⟩ := ck_out H
              refine ⟨by subst hA; exact ob1, hM _ ?_⟩
              refine tr_keepL [2, 4, 5, 7, 9, 11, 12, 13, 15, 41, 42, 46, 47, 48] (fun t15_18 : Int => mkSl 108 0 [(2, .val (.box (.st [.st [.int .i64, .int .u8], .int .u8, .arr 6 (.list (.int .i64))])) (.b .n) t0_1), (4, .val (.box (.st [.st [.int .i64, .int .u8], .int .u8, .arr 6 (.list (.int .i64))])) (.b (.s [.n, .n, (.a (.l .n))])) (((0 : Int), (0 : Int), ()), (0 : Int), t4_3, ())), (5, .val (.box (.arr 6 (.list (.int .i64)))) (.b (.a (.l .n))) t4_3), (7, .val (.box (.arr 6 (.list (.int .i64)))) (.b (.a (.l .n))) t7_4), (9, .val (.box (.st [.int .i64, .int .u8])) (.b .n) r_6.1), (11, .val (.box (.arr 30 (.bool))) (.b .n) t11_14), (12, .val (.int .i64) .n t42_9), (13, .val (.list (.int .i64)) .n t13_12), (15, .val (.int .i64) .n t15_18), (41, .val (.arr 6 (.list (.int .i64))) .n t0_1.2.2.1), (42, .val (.int .i64) .n t42_9), (46, .val (.list (.int .i64)) .n t13_12), (47, .val (.int .i64) .n t47_13), (48, .val (.int .i64) .n t48_15)]) H (by subst hA; rfl) (fun t15_18 H => ?_)
              clear ob1 hM hA M A
              refine tr_rg hP tabOk hsp fun A hA M hM => ?_
              cbv
              obtain ⟨ob1, H⟩ := ck_out H
              obtain ⟨ob2, H⟩ := ck_out H
              obtain ⟨ob3, H⟩ := ck_out H
              refine ⟨by subst hA; exact ob1, by subst hA; exact ob2, by subst hA; exact ob3, hM _ ?_⟩
              refine tr_keepL [2, 4, 5, 7, 9, 11, 12, 13, 41, 42, 46, 47, 48] (fun t11_19 : List Bool => mkSl 108 0 [(2, .val (.box (.st [.st [.int .i64, .int .u8], .int .u8, .arr 6 (.list (.int .i64))])) (.b .n) t0_1), (4, .val (.box (.st [.st [.int .i64, .int .u8], .int .u8, .arr 6 (.list (.int .i64))])) (.b (.s [.n, .n, (.a (.l .n))])) (((0 : Int), (0 : Int), ()), (0 : Int), t4_3, ())), (5, .val (.box (.arr 6 (.list (.int .i64)))) (.b (.a (.l .n))) t4_3), (7, .val (.box (.arr 6 (.list (.int .i64)))) (.b (.a (.l .n))) t7_4), (9, .val (.box (.st [.int .i64, .int .u8])) (.b .n) r_6.1), (11, .val (.box (.arr 30 (.bool))) (.b .n) t11_19), (12, .val (.int .i64) .n t42_9), (13, .val (.list (.int .i64)) .n t13_12), (41, .val (.arr 6 (.list (.int .i64))) .n t0_1.2.2.1), (42, .val (.int .i64) .n t42_9), (46, .val (.list (.int .i64)) .n t13_12), (47, .val (.int .i64) .n t47_13), (48, .val (.int .i64) .n t48_15)]) H (by subst hA; rfl) (fun t11_19 H => ?_)
              clear ob3 ob2 ob1 hM hA M A
              refine tr_rg hP tabOk hsp fun A hA M hM => ?_
              cbv
              refine hM _ ?_
              exact Exists.intro _ (And.intro (Option.some.inj H).symm (by subst hA; rfl))
            · replace H := if_f H hc
              refine tr_keep [2, 4, 5, 7, 9, 11, 12, 13, 41, 42, 46, 47, 48] (σ' := mkSl 108 0 [(2, .val (.box (.st [.st [.int .i64, .int .u8], .int .u8, .arr 6 (.list (.int .i64))])) (.b .n) t0_1), (4, .val (.box (.st [.st [.int .i64, .int .u8], .int .u8, .arr 6 (.list (.int .i64))])) (.b (.s [.n, .n, (.a (.l .n))])) (((0 : Int), (0 : Int), ()), (0 : Int), t4_3, ())), (5, .val (.box (.arr 6 (.list (.int .i64)))) (.b (.a (.l .n))) t4_3), (7, .val (.box (.arr 6 (.list (.int .i64)))) (.b (.a (.l .n))) t7_4), (9, .val (.box (.st [.int .i64, .int .u8])) (.b .n) r_6.1), (11, .val (.box (.arr 30 (.bool))) (.b .n) t11_14), (12, .val (.int .i64) .n t42_9), (13, .val (.list (.int .i64)) .n t13_12), (41, .val (.arr 6 (.list (.int .i64))) .n t0_1.2.2.1), (42, .val (.int .i64) .n t42_9), (46, .val (.list (.int .i64)) .n t13_12), (47, .val (.int .i64) .n t47_13), (48, .val (.int .i64) .n t48_15)]) rfl ?_
              refine tr_exit ?_
              exact And.intro rfl (Exists.intro _ (And.intro (Option.some.inj H).symm (by rfl)))
        · replace H := if_f H hc
          refine tr_keep [2, 4, 5, 7, 9, 11, 41, 42] (σ' := mkSl 108 0 [(2, .val (.box (.st [.st [.int .i64, .int .u8], .int .u8, .arr 6 (.list (.int .i64))])) (.b .n) t0_1), (4, .val (.box (.st [.st [.int .i64, .int .u8], .int .u8, .arr 6 (.list (.int .i64))])) (.b (.s [.n, .n, (.a (.l .n))])) (((0 : Int), (0 : Int), ()), (0 : Int), t4_3, ())), (5, .val (.box (.arr 6 (.list (.int .i64)))) (.b (.a (.l .n))) t4_3), (7, .val (.box (.arr 6 (.list (.int .i64)))) (.b (.a (.l .n))) t7_4), (9, .val (.box (.st [.int .i64, .int .u8])) (.b .n) r_6.1), (11, .val (.box (.arr 30 (.bool))) (.b .n) t11_8), (41, .val (.arr 6 (.list (.int .i64))) .n t0_1.2.2.1), (42, .val (.int .i64) .n t42_9)]) rfl ?_
          refine tr_exit ?_
          exact And.intro rfl (Exists.intro _ (And.intro (Option.some.inj H).symm (by rfl)))
theorem flush_Change_sp : ∃ (pg : PT.denL [.st [.st [.int .i64, .int .u8], .int .u8, .arr 6 (.list (.int .i64))], .int .u8] → Prop) (fg : PT.denL [.st [.st [.int .i64, .int .u8], .int .u8, .arr 6 (.list (.int .i64))], .int .u8] → PT.denL [.st [.st [.int .i64, .int .u8], .int .u8, .arr 6 (.list (.int .i64))], .arr 6 (.list (.int .i64)), .int .i64]), SpecRuns Try.prog 8 ⟨[.st [.st [.int .i64, .int .u8], .int .u8, .arr 6 (.list (.int .i64))], .int .u8], [.v, .v], [.st [.st [.int .i64, .int .u8], .int .u8, .arr 6 (.list (.int .i64))], .arr 6 (.list (.int .i64)), .int .i64], [.s [.n, .n, (.a (.l .n))], .a (.l .n), .n], pg, fg⟩ ∧ (∀ {a1 : ((Int × Int × Unit) × Int × List (List Int) × Unit)} {a2 : Int} {y : ((Int × Int × Unit) × Int × List (List Int) × Unit) × List (List Int) × Int}, flush_Change a1 a2 = some y → pg (a1, a2, ()) ∧ y = ((fg (a1, a2, ())).1, (fg (a1, a2, ())).2.1, (fg (a1, a2, ())).2.2.1)) ∧ (∀ {a1 : ((Int × Int × Unit) × Int × List (List Int) × Unit)} {a2 : Int}, (flush_Change a1 a2).isSome = true → pg (a1, a2, ())) ∧ ∀ {a1 : ((Int × Int × Unit) × Int × List (List Int) × Unit)} {a2 : Int}, (flush_Change a1 a2).getD ((((0 : Int), (0 : Int), ()), (0 : Int), List.replicate 6 ([] : List Int), ()), List.replicate 6 ([] : List Int), (0 : Int)) = ((fg (a1, a2, ())).1, (fg (a1, a2, ())).2.1, (fg (a1, a2, ())).2.2.1) := by
  obtain ⟨pg, fg, h, hc, hi, hd⟩ := spec_hide flush_Change_runs
  refine ⟨pg, fg, h, ?_, ?_, ?_⟩
  · intro a1 a2 y e
    obtain ⟨h1, h2⟩ := hc (a1, a2, ()) (y.1, y.2.1, y.2.2, ()) (congrArg (Option.map fun r => (r.1, r.2.1, r.2.2, ())) e)
    exact ⟨h1, by first | (rw [h2]; done) | (rw [h2]; rfl)⟩
  · intro a1 a2
    intro e
    exact hi (a1, a2, ()) (map_isSome e)
  · intro a1 a2
    rw [hd (a1, a2, ())]
    cases flush_Change a1 a2 <;> rfl
end Go.Proofs.Ythjbflbcdohooaa.Fl
