/- Functions of the program as functions that may fail, and that the code computes them (printed). Each theorem bears its conditions itself. -/
import Derived.Test.YtikbileeohddjaaMtDefs
import Derived.Test.YtikbileeohddjaaMtTab
import Derived.Test.YtikbileeohddjaaMtQmatQCheck
import Derived.Test.YtikbileeohddjaaMtQvectQMax
open Go Go.Proofs.Ytikbileeohddjaa.Sy Go.Proofs
set_option maxHeartbeats 4000000
set_option maxRecDepth 100000
set_option cbv.maxSteps 10000000
set_option linter.unusedVariables false
set_option linter.unusedSimpArgs false
namespace Go.Proofs.Ytikbileeohddjaa.Mt
theorem mat_Meet_runs : SpecRuns Try.prog 14 (oSpec [.st [.int .i64, .int .i64, .arr 6 (.arr 6 (.int .i64))], .st [.int .i64, .int .i64, .arr 6 (.arr 6 (.int .i64))]] [.v, .v] [.st [.int .i64, .int .i64, .arr 6 (.arr 6 (.int .i64))], .int .i64] [.n, .n] fun x => (mat_Meet x.1 x.2.1).map fun r => (r.1, r.2, ())) := by
  obtain ⟨pg13, fg13, hs13, hc13, hi13, hd13⟩ := mat_Check_sp
  obtain ⟨pg18, fg18, hs18, hc18, hi18, hd18⟩ := vect_Max_sp
  have hsp : SpecsOk Try.prog [(13, ⟨[.st [.int .i64, .int .i64, .arr 6 (.arr 6 (.int .i64))]], [.v], [.int .i64], [.n], pg13, fg13⟩), (18, ⟨[.arr 6 (.int .i64), .arr 6 (.int .i64)], [.v, .v], [.arr 6 (.int .i64)], [.n], pg18, fg18⟩)] := (specsOk_cons Try.func13 (by kernel_rfl) (by kernel_rfl) hs13 (specsOk_cons Try.func18 (by kernel_rfl) (by kernel_rfl) hs18 specsOk_nil))
  refine runs_of_o tabOk Try.func14 rfl (Nat.le_of_ble_eq_true rfl) rfl ?_
  rintro E ⟨(t0_1 : (Int × Int × List (List Int) × Unit)), (t1_2 : (Int × Int × List (List Int) × Unit)), ⟨⟩⟩ y hP H hw
  obtain ⟨z, H1, rfl⟩ := map_out H
  replace H : mat_Meet t0_1 t1_2 = some z := H1
  clear hw H1
  unfold mat_Meet at H
  refine tr_keep [0, 1] (σ' := mkSl 66 0 [(0, .val (.st [.int .i64, .int .i64, .arr 6 (.arr 6 (.int .i64))]) .n t0_1), (1, .val (.st [.int .i64, .int .i64, .arr 6 (.arr 6 (.int .i64))]) .n t1_2)]) rfl ?_
  refine tr_seq ?_
  refine tr_rg hP tabOk hsp fun A hA M hM => ?_
  cbv
  refine hM _ ?_
  refine tr_seq ?_
  refine tr_seq ?_
  refine tr_keepL [2, 3, 4] (fun t4_3 : List (List Int) => mkSl 66 0 [(2, .val (.box (.st [.int .i64, .int .i64, .arr 6 (.arr 6 (.int .i64))])) (.b .n) t0_1), (3, .val (.box (.st [.int .i64, .int .i64, .arr 6 (.arr 6 (.int .i64))])) (.b .n) t1_2), (4, .val (.box (.st [.int .i64, .int .i64, .arr 6 (.arr 6 (.int .i64))])) (.b .n) ((0 : Int), (0 : Int), t4_3, ()))]) H (by subst hA; rfl) (fun t4_3 H => ?_)
  clear hM hA M A
  refine tr_rg hP tabOk hsp fun A hA M hM => ?_
  cbv
  obtain ⟨r_4, hr1, H⟩ := bind_out H
  obtain ⟨pq1, eq1⟩ := hc13 hr1
  refine ⟨by subst hA; subst eq1; exact pq1, hM _ ?_⟩
  refine tr_seq ?_
  refine tr_keep [2, 3, 4, 6] (σ' := mkSl 66 0 [(2, .val (.box (.st [.int .i64, .int .i64, .arr 6 (.arr 6 (.int .i64))])) (.b .n) t0_1), (3, .val (.box (.st [.int .i64, .int .i64, .arr 6 (.arr 6 (.int .i64))])) (.b .n) t1_2), (4, .val (.box (.st [.int .i64, .int .i64, .arr 6 (.arr 6 (.int .i64))])) (.b .n) ((0 : Int), (0 : Int), t4_3, ())), (6, .val (.int .i64) .n r_4)]) (by subst hA; subst eq1; rfl) ?_
  clear pq1 eq1 hr1 hM hA M A
  refine tr_rg hP tabOk hsp fun A hA M hM => ?_
  cbv
  refine hM _ ?_
  refine tr_keep [2, 3, 4, 6, 12] (σ' := mkSl 66 0 [(2, .val (.box (.st [.int .i64, .int .i64, .arr 6 (.arr 6 (.int .i64))])) (.b .n) t0_1), (3, .val (.box (.st [.int .i64, .int .i64, .arr 6 (.arr 6 (.int .i64))])) (.b .n) t1_2), (4, .val (.box (.st [.int .i64, .int .i64, .arr 6 (.arr 6 (.int .i64))])) (.b .n) ((0 : Int), (0 : Int), t4_3, ())), (6, .val (.int .i64) .n r_4), (12, .val (.bool) .n (r_4 != (0 : Int)))]) (by subst hA; rfl) ?_
  clear hM hA M A
  refine tr_cond rfl (fun hc => ?_) (fun hc => ?_)
  · replace H := if_t H hc
    refine tr_keep [2, 3, 4, 6] (σ' := mkSl 66 0 [(2, .val (.box (.st [.int .i64, .int .i64, .arr 6 (.arr 6 (.int .i64))])) (.b .n) t0_1), (3, .val (.box (.st [.int .i64, .int .i64, .arr 6 (.arr 6 (.int .i64))])) (.b .n) t1_2), (4, .val (.box (.st [.int .i64, .int .i64, .arr 6 (.arr 6 (.int .i64))])) (.b .n) ((0 : Int), (0 : Int), t4_3, ())), (6, .val (.int .i64) .n r_4)]) rfl ?_
    refine tr_seq ?_
    refine tr_rg hP tabOk hsp fun A hA M hM => ?_
    cbv
    refine hM _ ?_
    refine tr_ret ?_
    have hr := Option.some.inj H
    subst hr
    subst hA
    exact rfl
  · replace H := if_f H hc
    refine tr_keep [2, 3, 4, 6] (σ' := mkSl 66 0 [(2, .val (.box (.st [.int .i64, .int .i64, .arr 6 (.arr 6 (.int .i64))])) (.b .n) t0_1), (3, .val (.box (.st [.int .i64, .int .i64, .arr 6 (.arr 6 (.int .i64))])) (.b .n) t1_2), (4, .val (.box (.st [.int .i64, .int .i64, .arr 6 (.arr 6 (.int .i64))])) (.b .n) ((0 : Int), (0 : Int), t4_3, ())), (6, .val (.int .i64) .n r_4)]) rfl ?_
    refine tr_skip ?_
    refine tr_seq ?_
    refine tr_seq ?_
    refine tr_rg hP tabOk hsp fun A hA M hM => ?_
    cbv
    obtain ⟨r_5, hr1, H⟩ := bind_out H
    obtain ⟨pq1, eq1⟩ := hc13 hr1
    refine ⟨by subst hA; subst eq1; exact pq1, hM _ ?_⟩
    refine tr_seq ?_
    refine tr_keep [2, 3, 4, 7] (σ' := mkSl 66 0 [(2, .val (.box (.st [.int .i64, .int .i64, .arr 6 (.arr 6 (.int .i64))])) (.b .n) t0_1), (3, .val (.box (.st [.int .i64, .int .i64, .arr 6 (.arr 6 (.int .i64))])) (.b .n) t1_2), (4, .val (.box (.st [.int .i64, .int .i64, .arr 6 (.arr 6 (.int .i64))])) (.b .n) ((0 : Int), (0 : Int), t4_3, ())), (7, .val (.int .i64) .n r_5)]) (by subst hA; subst eq1; rfl) ?_
    clear pq1 eq1 hr1 hM hA M A
    refine tr_rg hP tabOk hsp fun A hA M hM => ?_
    cbv
    refine hM _ ?_
    refine tr_keep [2, 3, 4, 7, 18] (σ' := mkSl 66 0 [(2, .val (.box (.st [.int .i64, .int .i64, .arr 6 (.arr 6 (.int .i64))])) (.b .n) t0_1), (3, .val (.box (.st [.int .i64, .int .i64, .arr 6 (.arr 6 (.int .i64))])) (.b .n) t1_2), (4, .val (.box (.st [.int .i64, .int .i64, .arr 6 (.arr 6 (.int .i64))])) (.b .n) ((0 : Int), (0 : Int), t4_3, ())), (7, .val (.int .i64) .n r_5), (18, .val (.bool) .n (r_5 != (0 : Int)))]) (by subst hA; rfl) ?_
    clear hM hA M A
    refine tr_cond rfl (fun hc => ?_) (fun hc => ?_)
    · replace H := if_t H hc
      refine tr_keep [2, 3, 4, 7] (σ' := mkSl 66 0 [(2, .val (.box (.st [.int .i64, .int .i64, .arr 6 (.arr 6 (.int .i64))])) (.b .n) t0_1), (3, .val (.box (.st [.int .i64, .int .i64, .arr 6 (.arr 6 (.int .i64))])) (.b .n) t1_2), (4, .val (.box (.st [.int .i64, .int .i64, .arr 6 (.arr 6 (.int .i64))])) (.b .n) ((0 : Int), (0 : Int), t4_3, ())), (7, .val (.int .i64) .n r_5)]) rfl ?_
      refine tr_seq ?_
      refine tr_rg hP tabOk hsp fun A hA M hM => ?_
      cbv
      refine hM _ ?_
      refine tr_ret ?_
      have hr := Option.some.inj H
      subst hr
      subst hA
      exact rfl
    · replace H := if_f H hc
      refine tr_keep [2, 3, 4, 7] (σ' := mkSl 66 0 [(2, .val (.box (.st [.int .i64, .int .i64, .arr 6 (.arr 6 (.int .i64))])) (.b .n) t0_1), (3, .val (.box (.st [.int .i64, .int .i64, .arr 6 (.arr 6 (.int .i64))])) (.b .n) t1_2), (4, .val (.box (.st [.int .i64, .int .i64, .arr 6 (.arr 6 (.int .i64))])) (.b .n) ((0 : Int), (0 : Int), t4_3, ())), (7, .val (.int .i64) .n r_5)]) rfl ?_
      refine tr_skip ?_
      refine tr_seq ?_
      refine tr_seq ?_
      refine tr_rg hP tabOk hsp fun A hA M hM => ?_
      cbv
      refine hM _ ?_
      refine tr_keep [2, 3, 4, 32] (σ' := mkSl 66 0 [(2, .val (.box (.st [.int .i64, .int .i64, .arr 6 (.arr 6 (.int .i64))])) (.b .n) t0_1), (3, .val (.box (.st [.int .i64, .int .i64, .arr 6 (.arr 6 (.int .i64))])) (.b .n) t1_2), (4, .val (.box (.st [.int .i64, .int .i64, .arr 6 (.arr 6 (.int .i64))])) (.b .n) ((0 : Int), (0 : Int), t4_3, ())), (32, .val (.bool) .n ((t1_2.1 != t0_1.1) || (t1_2.2.1 == t0_1.2.1)))]) (by subst hA; rfl) ?_
      clear hM hA M A
      refine tr_cond rfl (fun hc => ?_) (fun hc => ?_)
      · replace H := if_t H hc
        refine tr_keep [2, 3, 4] (σ' := mkSl 66 0 [(2, .val (.box (.st [.int .i64, .int .i64, .arr 6 (.arr 6 (.int .i64))])) (.b .n) t0_1), (3, .val (.box (.st [.int .i64, .int .i64, .arr 6 (.arr 6 (.int .i64))])) (.b .n) t1_2), (4, .val (.box (.st [.int .i64, .int .i64, .arr 6 (.arr 6 (.int .i64))])) (.b .n) ((0 : Int), (0 : Int), t4_3, ()))]) rfl ?_
        refine tr_seq ?_
        refine tr_rg hP tabOk hsp fun A hA M hM => ?_
        cbv
        refine hM _ ?_
        refine tr_ret ?_
        have hr := Option.some.inj H
        subst hr
        subst hA
        exact rfl
      · replace H := if_f H hc
        refine tr_keep [2, 3, 4] (σ' := mkSl 66 0 [(2, .val (.box (.st [.int .i64, .int .i64, .arr 6 (.arr 6 (.int .i64))])) (.b .n) t0_1), (3, .val (.box (.st [.int .i64, .int .i64, .arr 6 (.arr 6 (.int .i64))])) (.b .n) t1_2), (4, .val (.box (.st [.int .i64, .int .i64, .arr 6 (.arr 6 (.int .i64))])) (.b .n) ((0 : Int), (0 : Int), t4_3, ()))]) rfl ?_
        refine tr_skip ?_
        refine tr_seq ?_
        refine tr_seq ?_
        refine tr_rg hP tabOk hsp fun A hA M hM => ?_
        cbv
        refine hM _ ?_
        refine tr_block ?_
        refine tr_keep [2, 3, 4, 34] (σ' := mkSl 66 0 [(2, .val (.box (.st [.int .i64, .int .i64, .arr 6 (.arr 6 (.int .i64))])) (.b .n) t0_1), (3, .val (.box (.st [.int .i64, .int .i64, .arr 6 (.arr 6 (.int .i64))])) (.b .n) t1_2), (4, .val (.box (.st [.int .i64, .int .i64, .arr 6 (.arr 6 (.int .i64))])) (.b .n) ((0 : Int), (0 : Int), t4_3, ())), (34, .val (.int .i64) .n (0 : Int))]) (by subst hA; rfl) ?_
        clear hM hA M A
        obtain ⟨q_9, hq, H⟩ := bind_out H
        refine tr_loopB 0 (fun x : List (List Int) × Int => mat_Meet_L1 t1_2 x.1 x.2) (fun x : List (List Int) × Int => mkSl 66 0 [(2, .val (.box (.st [.int .i64, .int .i64, .arr 6 (.arr 6 (.int .i64))])) (.b .n) (t0_1.1, t0_1.2.1, x.1, ())), (3, .val (.box (.st [.int .i64, .int .i64, .arr 6 (.arr 6 (.int .i64))])) (.b .n) t1_2), (4, .val (.box (.st [.int .i64, .int .i64, .arr 6 (.arr 6 (.int .i64))])) (.b .n) ((0 : Int), (0 : Int), t4_3, ())), (34, .val (.int .i64) .n x.2)]) [2, 3, 4, 34] (fun q_9 : List (List Int) => mkSl 66 0 [(2, .val (.box (.st [.int .i64, .int .i64, .arr 6 (.arr 6 (.int .i64))])) (.b .n) (t0_1.1, t0_1.2.1, q_9, ())), (3, .val (.box (.st [.int .i64, .int .i64, .arr 6 (.arr 6 (.int .i64))])) (.b .n) t1_2), (4, .val (.box (.st [.int .i64, .int .i64, .arr 6 (.arr 6 (.int .i64))])) (.b .n) ((0 : Int), (0 : Int), t4_3, ()))]) [2, 3, 4] hq rfl (fun σ' h => ?_) (fun x r1 H => ?_)
        · refine tr_keep [2, 3, 4] h ?_
          refine tr_seq ?_
          refine tr_rg hP tabOk hsp fun A hA M hM => ?_
          cbv
          obtain ⟨ob1, H⟩ := ck_out H
          obtain ⟨ob2, H⟩ := ck_out H
          obtain ⟨r_12, hr3, H⟩ := bind_out H
          obtain ⟨pq3, eq3⟩ := hc18 hr3
          obtain ⟨ob4, H⟩ := ck_out H
          refine ⟨by subst hA; exact ob1, by subst hA; exact ob2, by subst hA; subst eq3; exact pq3, by subst hA; subst eq3; exact ob4, hM _ ?_⟩
          refine tr_seq ?_
          refine tr_keepL [2, 4] (fun t2_13 : List (List Int) => mkSl 66 0 [(2, .val (.box (.st [.int .i64, .int .i64, .arr 6 (.arr 6 (.int .i64))])) (.b .n) (t0_1.1, t0_1.2.1, t2_13, ())), (4, .val (.box (.st [.int .i64, .int .i64, .arr 6 (.arr 6 (.int .i64))])) (.b .n) ((0 : Int), (0 : Int), t4_3, ()))]) H (by subst hA; subst eq3; rfl) (fun t2_13 H => ?_)
          clear ob4 pq3 eq3 hr3 ob2 ob1 hM hA M A
          refine tr_rg hP tabOk hsp fun A hA M hM => ?_
          cbv
          refine hM _ ?_
          refine tr_ret ?_
          have hr := Option.some.inj H
          subst hr
          subst hA
          exact rfl
        · obtain ⟨t2_6, t34_7⟩ := x
          replace H : mat_Meet_L1 t1_2 t2_6 t34_7 = some r1 := H
          unfold mat_Meet_L1 at H
          refine tr_seq ?_
          refine tr_rg hP tabOk hsp fun A hA M hM => ?_
          cbv
          refine hM _ ?_
          refine tr_seq ?_
          refine tr_keep [2, 3, 4, 34, 35] (σ' := mkSl 66 0 [(2, .val (.box (.st [.int .i64, .int .i64, .arr 6 (.arr 6 (.int .i64))])) (.b .n) (t0_1.1, t0_1.2.1, t2_6, ())), (3, .val (.box (.st [.int .i64, .int .i64, .arr 6 (.arr 6 (.int .i64))])) (.b .n) t1_2), (4, .val (.box (.st [.int .i64, .int .i64, .arr 6 (.arr 6 (.int .i64))])) (.b .n) ((0 : Int), (0 : Int), t4_3, ())), (34, .val (.int .i64) .n t34_7), (35, .val (.bool) .n (decide (t34_7 < (6 : Int))))]) (by subst hA; rfl) ?_
          clear hM hA M A
          refine tr_cond rfl (fun hc => ?_) (fun hc => ?_)
          · replace H := if_t H hc
            refine tr_keep [2, 3, 4, 34] (σ' := mkSl 66 0 [(2, .val (.box (.st [.int .i64, .int .i64, .arr 6 (.arr 6 (.int .i64))])) (.b .n) (t0_1.1, t0_1.2.1, t2_6, ())), (3, .val (.box (.st [.int .i64, .int .i64, .arr 6 (.arr 6 (.int .i64))])) (.b .n) t1_2), (4, .val (.box (.st [.int .i64, .int .i64, .arr 6 (.arr 6 (.int .i64))])) (.b .n) ((0 : Int), (0 : Int), t4_3, ())), (34, .val (.int .i64) .n t34_7)]) rfl ?_
            refine tr_skip ?_
            refine tr_seq ?_
            refine tr_block ?_
            refine tr_seq ?_
            refine tr_rg hP tabOk hsp fun A hA M hM => ?_
            cbv
            refine hM _ ?_
            refine tr_keep [2, 3, 4, 8, 34] (σ' := mkSl 66 0 [(2, .val (.box (.st [.int .i64, .int .i64, .arr 6 (.arr 6 (.int .i64))])) (.b .n) (t0_1.1, t0_1.2.1, t2_6, ())), (3, .val (.box (.st [.int .i64, .int .i64, .arr 6 (.arr 6 (.int .i64))])) (.b .n) t1_2), (4, .val (.box (.st [.int .i64, .int .i64, .arr 6 (.arr 6 (.int .i64))])) (.b .n) ((0 : Int), (0 : Int), t4_3, ())), (8, .val (.int .i64) .n t34_7), (34, .val (.int .i64) .n t34_7)]) (by subst hA; rfl) ?_
            clear hM hA M A
            refine tr_rg hP tabOk hsp fun A hA M hM => ?_
            cbv
            obtain ⟨ob1, H⟩ := ck_out H
            obtain ⟨ob2, H⟩ := ck_out H
            obtain ⟨r_10, hr3, H⟩ := bind_out H
            obtain ⟨pq3, eq3⟩ := hc18 hr3
            obtain ⟨ob4, H⟩ := ck_out H
            refine ⟨by subst hA; exact ob1, by subst hA; exact ob2, by subst hA; subst eq3; exact pq3, by subst hA; subst eq3; exact ob4, hM _ ?_⟩
            refine tr_keepL [2, 3, 4, 34] (fun t2_11 : List (List Int) => mkSl 66 0 [(2, .val (.box (.st [.int .i64, .int .i64, .arr 6 (.arr 6 (.int .i64))])) (.b .n) (t0_1.1, t0_1.2.1, t2_11, ())), (3, .val (.box (.st [.int .i64, .int .i64, .arr 6 (.arr 6 (.int .i64))])) (.b .n) t1_2), (4, .val (.box (.st [.int .i64, .int .i64, .arr 6 (.arr 6 (.int .i64))])) (.b .n) ((0 : Int), (0 : Int), t4_3, ())), (34, .val (.int .i64) .n t34_7)]) H (by subst hA; subst eq3; rfl) (fun t2_11 H => ?_)
            clear ob4 pq3 eq3 hr3 ob2 ob1 hM hA M A
            refine tr_rg hP tabOk hsp fun A hA M hM => ?_
            cbv
            refine hM _ ?_
            exact Exists.intro _ (And.intro (Option.some.inj H).symm (by subst hA; rfl))
          · replace H := if_f H hc
            refine tr_keep [2, 3, 4, 34] (σ' := mkSl 66 0 [(2, .val (.box (.st [.int .i64, .int .i64, .arr 6 (.arr 6 (.int .i64))])) (.b .n) (t0_1.1, t0_1.2.1, t2_6, ())), (3, .val (.box (.st [.int .i64, .int .i64, .arr 6 (.arr 6 (.int .i64))])) (.b .n) t1_2), (4, .val (.box (.st [.int .i64, .int .i64, .arr 6 (.arr 6 (.int .i64))])) (.b .n) ((0 : Int), (0 : Int), t4_3, ())), (34, .val (.int .i64) .n t34_7)]) rfl ?_
            refine tr_exit ?_
            exact And.intro rfl (Exists.intro _ (And.intro (Option.some.inj H).symm (by rfl)))
theorem mat_Meet_sp : ∃ (pg : PT.denL [.st [.int .i64, .int .i64, .arr 6 (.arr 6 (.int .i64))], .st [.int .i64, .int .i64, .arr 6 (.arr 6 (.int .i64))]] → Prop) (fg : PT.denL [.st [.int .i64, .int .i64, .arr 6 (.arr 6 (.int .i64))], .st [.int .i64, .int .i64, .arr 6 (.arr 6 (.int .i64))]] → PT.denL [.st [.int .i64, .int .i64, .arr 6 (.arr 6 (.int .i64))], .int .i64]), SpecRuns Try.prog 14 ⟨[.st [.int .i64, .int .i64, .arr 6 (.arr 6 (.int .i64))], .st [.int .i64, .int .i64, .arr 6 (.arr 6 (.int .i64))]], [.v, .v], [.st [.int .i64, .int .i64, .arr 6 (.arr 6 (.int .i64))], .int .i64], [.n, .n], pg, fg⟩ ∧ (∀ {a1 : (Int × Int × List (List Int) × Unit)} {a2 : (Int × Int × List (List Int) × Unit)} {y : (Int × Int × List (List Int) × Unit) × Int}, mat_Meet a1 a2 = some y → pg (a1, a2, ()) ∧ y = ((fg (a1, a2, ())).1, (fg (a1, a2, ())).2.1)) ∧ (∀ {a1 : (Int × Int × List (List Int) × Unit)} {a2 : (Int × Int × List (List Int) × Unit)}, (mat_Meet a1 a2).isSome = true → pg (a1, a2, ())) ∧ ∀ {a1 : (Int × Int × List (List Int) × Unit)} {a2 : (Int × Int × List (List Int) × Unit)}, (mat_Meet a1 a2).getD (((0 : Int), (0 : Int), List.replicate 6 (List.replicate 6 (0 : Int)), ()), (0 : Int)) = ((fg (a1, a2, ())).1, (fg (a1, a2, ())).2.1) := by
  obtain ⟨pg, fg, h, hc, hi, hd⟩ := spec_hide mat_Meet_runs
  refine ⟨pg, fg, h, ?_, ?_, ?_⟩
  · intro a1 a2 y e
    obtain ⟨h1, h2⟩ := hc (a1, a2, ()) (y.1, y.2, ()) (congrArg (Option.map fun r => (r.1, r.2, ())) e)
    exact ⟨h1, by first | (rw [h2]; done) | (rw [h2]; rfl)⟩
  · intro a1 a2
    intro e
    exact hi (a1, a2, ()) (map_isSome e)
  · intro a1 a2
    rw [hd (a1, a2, ())]
    cases mat_Meet a1 a2 <;> rfl
end Go.Proofs.Ytikbileeohddjaa.Mt
