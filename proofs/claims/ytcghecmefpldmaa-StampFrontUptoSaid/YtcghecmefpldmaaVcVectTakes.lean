/- Functions of the program as functions that may fail, and that the code computes them (printed). Each theorem bears its conditions itself. -/
import Derived.Test.YtcghecmefpldmaaVcDefs
import Derived.Test.YtcghecmefpldmaaVcTab
import Derived.Test.YtcghecmefpldmaaVcVectVectors
import Derived.Test.YtcghecmefpldmaaVcVectMax
open Go Go.Proofs.Ytcghecmefpldmaa.Sy Go.Proofs
set_option maxHeartbeats 4000000
set_option maxRecDepth 100000
set_option linter.unusedVariables false
set_option linter.unusedSimpArgs false
namespace Go.Proofs.Ytcghecmefpldmaa.Vc
theorem VectTakes_runs : SpecRuns Try.prog 4 (oSpec [.list (.st [.int .i64, .int .i64, .int .i64])] [.v] [.bool] [.n] fun x => (VectTakes x.1).map fun r => (r, ())) := by
  obtain ⟨pg16, fg16, hs16, hc16, hi16, hd16⟩ := vect_Vectors_sp
  obtain ⟨pg14, fg14, hs14, hc14, hi14, hd14⟩ := vect_Max_sp
  have hsp : SpecsOk Try.prog [(16, ⟨[.list (.st [.int .i64, .int .i64, .int .i64])], [.v], [.list (.arr 6 (.int .i64)), .int .i64], [.l .n, .n], pg16, fg16⟩), (14, ⟨[.arr 6 (.int .i64), .arr 6 (.int .i64)], [.v, .v], [.arr 6 (.int .i64)], [.n], pg14, fg14⟩)] := (specsOk_cons Try.func16 (by kernel_rfl) (by kernel_rfl) hs16 (specsOk_cons Try.func14 (by kernel_rfl) (by kernel_rfl) hs14 specsOk_nil))
  refine runs_of_o tabOk Try.func4 rfl (Nat.le_of_ble_eq_true rfl) rfl ?_
  rintro E ⟨(t0_1 : List ((Int × Int × Int × Unit))), ⟨⟩⟩ y hP H hw
  obtain ⟨z, H1, rfl⟩ := map_out H
  replace H : VectTakes t0_1 = some z := H1
  clear hw H1
  unfold VectTakes at H
  refine tr_keep [0] (σ' := mkSl 107 0 [(0, .val (.list (.st [.int .i64, .int .i64, .int .i64])) .n t0_1)]) rfl ?_
  refine tr_seq ?_
  refine tr_rg hP tabOk hsp fun A hA M hM => ?_
  cbv
  refine hM _ ?_
  refine tr_seq ?_
  refine tr_seq ?_
  refine tr_keep [0] (σ' := mkSl 107 0 [(0, .val (.list (.st [.int .i64, .int .i64, .int .i64])) .n t0_1)]) (by subst hA; rfl) ?_
  clear hM hA M A
  refine tr_rg hP tabOk hsp fun A hA M hM => ?_
  cbv
  obtain ⟨r_2, hr1, H⟩ := bind_out H
  obtain ⟨pq1, eq1⟩ := hc16 hr1
  refine ⟨by subst hA; subst eq1; exact pq1, hM _ ?_⟩
  refine tr_seq ?_
  refine tr_keep [0, 3, 4] (σ' := mkSl 107 0 [(0, .val (.list (.st [.int .i64, .int .i64, .int .i64])) .n t0_1), (3, .val (.list (.arr 6 (.int .i64))) (.l .n) r_2.1), (4, .val (.int .i64) .n r_2.2)]) (by subst hA; subst eq1; rfl) ?_
  clear pq1 eq1 hr1 hM hA M A
  refine tr_rg hP tabOk hsp fun A hA M hM => ?_
  cbv
  obtain ⟨ob1, H⟩ := ck_out H
  refine ⟨by subst hA; exact ob1, hM _ ?_⟩
  refine tr_keep [0, 35] (σ' := mkSl 107 0 [(0, .val (.list (.st [.int .i64, .int .i64, .int .i64])) .n t0_1), (35, .val (.bool) .n (((r_2.2 != (0 : Int)) || ((r_2.1.length : Int) != (3 : Int))) || (!(eqA6I (r_2.1.getD 2 (List.replicate 6 (0 : Int))) [(2 : Int), (0 : Int), (1 : Int), (0 : Int), (0 : Int), (0 : Int)]))))]) (by subst hA; rfl) ?_
  clear ob1 hM hA M A
  refine tr_cond rfl (fun hc => ?_) (fun hc => ?_)
  · replace H := if_t H hc
    refine tr_keep [0] (σ' := mkSl 107 0 [(0, .val (.list (.st [.int .i64, .int .i64, .int .i64])) .n t0_1)]) rfl ?_
    refine tr_seq ?_
    refine tr_rg hP tabOk hsp fun A hA M hM => ?_
    cbv
    refine hM _ ?_
    refine tr_ret ?_
    have hr := Option.some.inj H
    subst hr
    subst hA
    exact rfl
  · replace H := if_f H hc
    refine tr_keep [0] (σ' := mkSl 107 0 [(0, .val (.list (.st [.int .i64, .int .i64, .int .i64])) .n t0_1)]) rfl ?_
    refine tr_skip ?_
    refine tr_seq ?_
    refine tr_rg hP tabOk hsp fun A hA M hM => ?_
    cbv
    obtain ⟨r_3, hr1, H⟩ := bind_out H
    obtain ⟨pq1, eq1⟩ := hc16 hr1
    refine ⟨by subst hA; subst eq1; exact pq1, hM _ ?_⟩
    refine tr_seq ?_
    refine tr_seq ?_
    refine tr_keep [0, 5, 6] (σ' := mkSl 107 0 [(0, .val (.list (.st [.int .i64, .int .i64, .int .i64])) .n t0_1), (5, .val (.list (.arr 6 (.int .i64))) (.l .n) r_3.1), (6, .val (.int .i64) .n r_3.2)]) (by subst hA; subst eq1; rfl) ?_
    clear pq1 eq1 hr1 hM hA M A
    refine tr_rg hP tabOk hsp fun A hA M hM => ?_
    cbv
    refine hM _ ?_
    refine tr_keep [0, 5, 42] (σ' := mkSl 107 0 [(0, .val (.list (.st [.int .i64, .int .i64, .int .i64])) .n t0_1), (5, .val (.list (.arr 6 (.int .i64))) (.l .n) r_3.1), (42, .val (.bool) .n (r_3.2 != (0 : Int)))]) (by subst hA; rfl) ?_
    clear hM hA M A
    refine tr_cond rfl (fun hc => ?_) (fun hc => ?_)
    · replace H := if_t H hc
      refine tr_keep [0, 5] (σ' := mkSl 107 0 [(0, .val (.list (.st [.int .i64, .int .i64, .int .i64])) .n t0_1), (5, .val (.list (.arr 6 (.int .i64))) (.l .n) r_3.1)]) rfl ?_
      refine tr_seq ?_
      refine tr_rg hP tabOk hsp fun A hA M hM => ?_
      cbv
      refine hM _ ?_
      refine tr_ret ?_
      have hr := Option.some.inj H
      subst hr
      subst hA
      exact rfl
    · replace H := if_f H hc
      refine tr_keep [0, 5] (σ' := mkSl 107 0 [(0, .val (.list (.st [.int .i64, .int .i64, .int .i64])) .n t0_1), (5, .val (.list (.arr 6 (.int .i64))) (.l .n) r_3.1)]) rfl ?_
      refine tr_skip ?_
      refine tr_seq ?_
      refine tr_seq ?_
      refine tr_rg hP tabOk hsp fun A hA M hM => ?_
      cbv
      refine hM _ ?_
      refine tr_block ?_
      refine tr_keepL [0, 5, 46, 47, 48] (fun t47_4 : Int => mkSl 107 0 [(0, .val (.list (.st [.int .i64, .int .i64, .int .i64])) .n t0_1), (5, .val (.list (.arr 6 (.int .i64))) (.l .n) r_3.1), (46, .val (.list (.st [.int .i64, .int .i64, .int .i64])) .n t0_1), (47, .val (.int .i64) .n t47_4), (48, .val (.int .i64) .n (0 : Int))]) H (by subst hA; rfl) (fun t47_4 H => ?_)
      clear hM hA M A
      obtain ⟨q, hq, Hl, Hr⟩ := bindE_out H
      refine tr_loopE 0 (fun x : Int => VectTakes_L1 t0_1 r_3 t47_4 x) (fun x : Int => mkSl 107 0 [(0, .val (.list (.st [.int .i64, .int .i64, .int .i64])) .n t0_1), (5, .val (.list (.arr 6 (.int .i64))) (.l .n) r_3.1), (46, .val (.list (.st [.int .i64, .int .i64, .int .i64])) .n t0_1), (47, .val (.int .i64) .n t47_4), (48, .val (.int .i64) .n x)]) [0, 5, 46, 47, 48] (fun q_6 : Unit => mkSl 107 0 []) [] hq rfl Hr (fun q_6 hl σ' h => ?_) (fun x r1 H => ?_)
      · replace H := Hl q_6 hl
        refine tr_keep [] h ?_
        refine tr_seq ?_
        refine tr_rg hP tabOk hsp fun A hA M hM => ?_
        cbv
        refine hM _ ?_
        refine tr_ret ?_
        have hr := Option.some.inj H
        subst hr
        subst hA
        exact rfl
      · obtain ⟨t48_5, rfl⟩ : ∃ v, v = x := ⟨x, rfl⟩
        replace H : VectTakes_L1 t0_1 r_3 t47_4 t48_5 = some r1 := H
        unfold VectTakes_L1 at H
        refine tr_seq ?_
        refine tr_rg hP tabOk hsp fun A hA M hM => ?_
        cbv
        refine hM _ ?_
        refine tr_seq ?_
        refine tr_keep [0, 5, 46, 47, 48, 49] (σ' := mkSl 107 0 [(0, .val (.list (.st [.int .i64, .int .i64, .int .i64])) .n t0_1), (5, .val (.list (.arr 6 (.int .i64))) (.l .n) r_3.1), (46, .val (.list (.st [.int .i64, .int .i64, .int .i64])) .n t0_1), (47, .val (.int .i64) .n t47_4), (48, .val (.int .i64) .n t48_5), (49, .val (.bool) .n (decide (t48_5 < t47_4)))]) (by subst hA; rfl) ?_
        clear hM hA M A
        refine tr_cond rfl (fun hc => ?_) (fun hc => ?_)
        · replace H := if_t H hc
          refine tr_keep [0, 5, 46, 47, 48] (σ' := mkSl 107 0 [(0, .val (.list (.st [.int .i64, .int .i64, .int .i64])) .n t0_1), (5, .val (.list (.arr 6 (.int .i64))) (.l .n) r_3.1), (46, .val (.list (.st [.int .i64, .int .i64, .int .i64])) .n t0_1), (47, .val (.int .i64) .n t47_4), (48, .val (.int .i64) .n t48_5)]) rfl ?_
          refine tr_skip ?_
          refine tr_seq ?_
          refine tr_block ?_
          refine tr_seq ?_
          refine tr_rg hP tabOk hsp fun A hA M hM => ?_
          cbv
          obtain ⟨ob1, H⟩ := ck_out H
          refine ⟨by subst hA; exact ob1, hM _ ?_⟩
          refine tr_seq ?_
          refine tr_keepL [0, 5, 7, 8, 46, 47, 48] (fun t8_7 : (Int × Int × Int × Unit) => mkSl 107 0 [(0, .val (.list (.st [.int .i64, .int .i64, .int .i64])) .n t0_1), (5, .val (.list (.arr 6 (.int .i64))) (.l .n) r_3.1), (7, .val (.int .i64) .n t48_5), (8, .val (.box (.st [.int .i64, .int .i64, .int .i64])) (.b .n) t8_7), (46, .val (.list (.st [.int .i64, .int .i64, .int .i64])) .n t0_1), (47, .val (.int .i64) .n t47_4), (48, .val (.int .i64) .n t48_5)]) H (by subst hA; rfl) (fun t8_7 H => ?_)
          clear ob1 hM hA M A
          refine tr_rg hP tabOk hsp fun A hA M hM => ?_
          cbv
          refine hM _ ?_
          refine tr_seq ?_
          refine tr_seq ?_
          refine tr_keepL [0, 5, 7, 8, 9, 10, 46, 47, 48] (fun t9_8 : List Int => mkSl 107 0 [(0, .val (.list (.st [.int .i64, .int .i64, .int .i64])) .n t0_1), (5, .val (.list (.arr 6 (.int .i64))) (.l .n) r_3.1), (7, .val (.int .i64) .n t48_5), (8, .val (.box (.st [.int .i64, .int .i64, .int .i64])) (.b .n) t8_7), (9, .val (.box (.arr 6 (.int .i64))) (.b .n) t9_8), (10, .val (.box (.arr 6 (.int .i64))) (.b .n) t9_8), (46, .val (.list (.st [.int .i64, .int .i64, .int .i64])) .n t0_1), (47, .val (.int .i64) .n t47_4), (48, .val (.int .i64) .n t48_5)]) H (by subst hA; rfl) (fun t9_8 H => ?_)
          clear hM hA M A
          refine tr_rg hP tabOk hsp fun A hA M hM => ?_
          cbv
          obtain ⟨ob1, H⟩ := ck_out H
          refine ⟨by subst hA; exact ob1, hM _ ?_⟩
          refine tr_block ?_
          refine tr_keepL [0, 5, 7, 8, 9, 10, 46, 47, 48, 55, 56, 57] (fun t55_9 : List ((Int × Int × Int × Unit)) => mkSl 107 0 [(0, .val (.list (.st [.int .i64, .int .i64, .int .i64])) .n t0_1), (5, .val (.list (.arr 6 (.int .i64))) (.l .n) r_3.1), (7, .val (.int .i64) .n t48_5), (8, .val (.box (.st [.int .i64, .int .i64, .int .i64])) (.b .n) t8_7), (9, .val (.box (.arr 6 (.int .i64))) (.b .n) t9_8), (10, .val (.box (.arr 6 (.int .i64))) (.b .n) t9_8), (46, .val (.list (.st [.int .i64, .int .i64, .int .i64])) .n t0_1), (47, .val (.int .i64) .n t47_4), (48, .val (.int .i64) .n t48_5), (55, .val (.list (.st [.int .i64, .int .i64, .int .i64])) .n t55_9), (56, .val (.int .i64) .n ((t55_9.length : Int))), (57, .val (.int .i64) .n (0 : Int))]) H (by subst hA; rfl) (fun t55_9 H => ?_)
          refine tr_keepL [0, 5, 7, 8, 9, 10, 46, 47, 48, 55, 56, 57] (fun t56_10 : Int => mkSl 107 0 [(0, .val (.list (.st [.int .i64, .int .i64, .int .i64])) .n t0_1), (5, .val (.list (.arr 6 (.int .i64))) (.l .n) r_3.1), (7, .val (.int .i64) .n t48_5), (8, .val (.box (.st [.int .i64, .int .i64, .int .i64])) (.b .n) t8_7), (9, .val (.box (.arr 6 (.int .i64))) (.b .n) t9_8), (10, .val (.box (.arr 6 (.int .i64))) (.b .n) t9_8), (46, .val (.list (.st [.int .i64, .int .i64, .int .i64])) .n t0_1), (47, .val (.int .i64) .n t47_4), (48, .val (.int .i64) .n t48_5), (55, .val (.list (.st [.int .i64, .int .i64, .int .i64])) .n t55_9), (56, .val (.int .i64) .n t56_10), (57, .val (.int .i64) .n (0 : Int))]) H (by rfl) (fun t56_10 H => ?_)
          clear ob1 hM hA M A
          obtain ⟨q_16, hq, H⟩ := bind_out H
          refine tr_loopB 2 (fun x : List Int × List Int × Int => VectTakes_L2 r_3 t8_7 t55_9 t56_10 x.1 x.2.1 x.2.2) (fun x : List Int × List Int × Int => mkSl 107 0 [(0, .val (.list (.st [.int .i64, .int .i64, .int .i64])) .n t0_1), (5, .val (.list (.arr 6 (.int .i64))) (.l .n) r_3.1), (7, .val (.int .i64) .n t48_5), (8, .val (.box (.st [.int .i64, .int .i64, .int .i64])) (.b .n) t8_7), (9, .val (.box (.arr 6 (.int .i64))) (.b .n) x.1), (10, .val (.box (.arr 6 (.int .i64))) (.b .n) x.2.1), (46, .val (.list (.st [.int .i64, .int .i64, .int .i64])) .n t0_1), (47, .val (.int .i64) .n t47_4), (48, .val (.int .i64) .n t48_5), (55, .val (.list (.st [.int .i64, .int .i64, .int .i64])) .n t55_9), (56, .val (.int .i64) .n t56_10), (57, .val (.int .i64) .n x.2.2)]) [0, 5, 7, 8, 9, 10, 46, 47, 48, 55, 56, 57] (fun q_16 : List Int × List Int => mkSl 107 0 [(0, .val (.list (.st [.int .i64, .int .i64, .int .i64])) .n t0_1), (5, .val (.list (.arr 6 (.int .i64))) (.l .n) r_3.1), (7, .val (.int .i64) .n t48_5), (8, .val (.box (.st [.int .i64, .int .i64, .int .i64])) (.b .n) t8_7), (9, .val (.box (.arr 6 (.int .i64))) (.b .n) q_16.1), (10, .val (.box (.arr 6 (.int .i64))) (.b .n) q_16.2), (46, .val (.list (.st [.int .i64, .int .i64, .int .i64])) .n t0_1), (47, .val (.int .i64) .n t47_4), (48, .val (.int .i64) .n t48_5)]) [0, 5, 7, 8, 9, 10, 46, 47, 48] hq rfl (fun σ' h => ?_) (fun x r2 H => ?_)
          · refine tr_keep [0, 5, 7, 8, 9, 10, 46, 47, 48] h ?_
            refine tr_seq ?_
            refine tr_rg hP tabOk hsp fun A hA M hM => ?_
            cbv
            obtain ⟨r_20, hr1, H⟩ := bind_out H
            obtain ⟨pq1, eq1⟩ := hc14 hr1
            refine ⟨by subst hA; subst eq1; exact pq1, hM _ ?_⟩
            refine tr_seq ?_
            refine tr_keep [0, 5, 7, 8, 13, 46, 47, 48] (σ' := mkSl 107 0 [(0, .val (.list (.st [.int .i64, .int .i64, .int .i64])) .n t0_1), (5, .val (.list (.arr 6 (.int .i64))) (.l .n) r_3.1), (7, .val (.int .i64) .n t48_5), (8, .val (.box (.st [.int .i64, .int .i64, .int .i64])) (.b .n) t8_7), (13, .val (.box (.arr 6 (.int .i64))) (.b .n) r_20), (46, .val (.list (.st [.int .i64, .int .i64, .int .i64])) .n t0_1), (47, .val (.int .i64) .n t47_4), (48, .val (.int .i64) .n t48_5)]) (by subst hA; subst eq1; rfl) ?_
            clear pq1 eq1 hr1 hM hA M A
            refine tr_rg hP tabOk hsp fun A hA M hM => ?_
            cbv
            obtain ⟨ob1, H⟩ := ck_out H
            obtain ⟨ob2, H⟩ := ck_out H
            refine ⟨by subst hA; exact ob1, by subst hA; exact ob2, hM _ ?_⟩
            refine tr_seq ?_
            refine tr_keepL [0, 5, 7, 13, 46, 47, 48] (fun t13_21 : List Int => mkSl 107 0 [(0, .val (.list (.st [.int .i64, .int .i64, .int .i64])) .n t0_1), (5, .val (.list (.arr 6 (.int .i64))) (.l .n) r_3.1), (7, .val (.int .i64) .n t48_5), (13, .val (.box (.arr 6 (.int .i64))) (.b .n) t13_21), (46, .val (.list (.st [.int .i64, .int .i64, .int .i64])) .n t0_1), (47, .val (.int .i64) .n t47_4), (48, .val (.int .i64) .n t48_5)]) H (by subst hA; rfl) (fun t13_21 H => ?_)
            clear ob2 ob1 hM hA M A
            refine tr_rg hP tabOk hsp fun A hA M hM => ?_
            cbv
            obtain ⟨ob1, H⟩ := ck_out H
            refine ⟨by subst hA; exact ob1, hM _ ?_⟩
            refine tr_keep [0, 5, 46, 47, 48, 105] (σ' := mkSl 107 0 [(0, .val (.list (.st [.int .i64, .int .i64, .int .i64])) .n t0_1), (5, .val (.list (.arr 6 (.int .i64))) (.l .n) r_3.1), (46, .val (.list (.st [.int .i64, .int .i64, .int .i64])) .n t0_1), (47, .val (.int .i64) .n t47_4), (48, .val (.int .i64) .n t48_5), (105, .val (.bool) .n (!(eqA6I (r_3.1.getD t48_5.toNat (List.replicate 6 (0 : Int))) t13_21)))]) (by subst hA; rfl) ?_
            clear ob1 hM hA M A
            refine tr_cond rfl (fun hc => ?_) (fun hc => ?_)
            · replace H := if_t H hc
              refine tr_keep [0, 5, 46, 47, 48] (σ' := mkSl 107 0 [(0, .val (.list (.st [.int .i64, .int .i64, .int .i64])) .n t0_1), (5, .val (.list (.arr 6 (.int .i64))) (.l .n) r_3.1), (46, .val (.list (.st [.int .i64, .int .i64, .int .i64])) .n t0_1), (47, .val (.int .i64) .n t47_4), (48, .val (.int .i64) .n t48_5)]) rfl ?_
              refine tr_seq ?_
              refine tr_rg hP tabOk hsp fun A hA M hM => ?_
              cbv
              refine hM _ ?_
              refine tr_ret ?_
              have hr := Option.some.inj H
              refine Exists.intro _ (And.intro hr.symm (fun hr => ?_))
              subst hr
              subst hA
              exact rfl
            · replace H := if_f H hc
              refine tr_keep [0, 5, 46, 47, 48] (σ' := mkSl 107 0 [(0, .val (.list (.st [.int .i64, .int .i64, .int .i64])) .n t0_1), (5, .val (.list (.arr 6 (.int .i64))) (.l .n) r_3.1), (46, .val (.list (.st [.int .i64, .int .i64, .int .i64])) .n t0_1), (47, .val (.int .i64) .n t47_4), (48, .val (.int .i64) .n t48_5)]) rfl ?_
              refine tr_skip ?_
              refine tr_rg hP tabOk hsp fun A hA M hM => ?_
              cbv
              refine hM _ ?_
              exact Exists.intro _ (And.intro (Option.some.inj H).symm (by subst hA; rfl))
          · obtain ⟨t9_11, t10_12, t57_13⟩ := x
            replace H : VectTakes_L2 r_3 t8_7 t55_9 t56_10 t9_11 t10_12 t57_13 = some r2 := H
            unfold VectTakes_L2 at H
            refine tr_seq ?_
            refine tr_rg hP tabOk hsp fun A hA M hM => ?_
            cbv
            refine hM _ ?_
            refine tr_seq ?_
            refine tr_keep [0, 5, 7, 8, 9, 10, 46, 47, 48, 55, 56, 57, 58] (σ' := mkSl 107 0 [(0, .val (.list (.st [.int .i64, .int .i64, .int .i64])) .n t0_1), (5, .val (.list (.arr 6 (.int .i64))) (.l .n) r_3.1), (7, .val (.int .i64) .n t48_5), (8, .val (.box (.st [.int .i64, .int .i64, .int .i64])) (.b .n) t8_7), (9, .val (.box (.arr 6 (.int .i64))) (.b .n) t9_11), (10, .val (.box (.arr 6 (.int .i64))) (.b .n) t10_12), (46, .val (.list (.st [.int .i64, .int .i64, .int .i64])) .n t0_1), (47, .val (.int .i64) .n t47_4), (48, .val (.int .i64) .n t48_5), (55, .val (.list (.st [.int .i64, .int .i64, .int .i64])) .n t55_9), (56, .val (.int .i64) .n t56_10), (57, .val (.int .i64) .n t57_13), (58, .val (.bool) .n (decide (t57_13 < t56_10)))]) (by subst hA; rfl) ?_
            clear hM hA M A
            refine tr_cond rfl (fun hc => ?_) (fun hc => ?_)
            · replace H := if_t H hc
              refine tr_keep [0, 5, 7, 8, 9, 10, 46, 47, 48, 55, 56, 57] (σ' := mkSl 107 0 [(0, .val (.list (.st [.int .i64, .int .i64, .int .i64])) .n t0_1), (5, .val (.list (.arr 6 (.int .i64))) (.l .n) r_3.1), (7, .val (.int .i64) .n t48_5), (8, .val (.box (.st [.int .i64, .int .i64, .int .i64])) (.b .n) t8_7), (9, .val (.box (.arr 6 (.int .i64))) (.b .n) t9_11), (10, .val (.box (.arr 6 (.int .i64))) (.b .n) t10_12), (46, .val (.list (.st [.int .i64, .int .i64, .int .i64])) .n t0_1), (47, .val (.int .i64) .n t47_4), (48, .val (.int .i64) .n t48_5), (55, .val (.list (.st [.int .i64, .int .i64, .int .i64])) .n t55_9), (56, .val (.int .i64) .n t56_10), (57, .val (.int .i64) .n t57_13)]) rfl ?_
              refine tr_skip ?_
              refine tr_seq ?_
              refine tr_block ?_
              refine tr_seq ?_
              refine tr_rg hP tabOk hsp fun A hA M hM => ?_
              cbv
              obtain ⟨ob1, H⟩ := ck_out H
              refine ⟨by subst hA; exact ob1, hM _ ?_⟩
              refine tr_seq ?_
              refine tr_seq ?_
              refine tr_keepL [0, 5, 7, 8, 9, 10, 11, 12, 46, 47, 48, 55, 56, 57] (fun t12_17 : (Int × Int × Int × Unit) => mkSl 107 0 [(0, .val (.list (.st [.int .i64, .int .i64, .int .i64])) .n t0_1), (5, .val (.list (.arr 6 (.int .i64))) (.l .n) r_3.1), (7, .val (.int .i64) .n t48_5), (8, .val (.box (.st [.int .i64, .int .i64, .int .i64])) (.b .n) t8_7), (9, .val (.box (.arr 6 (.int .i64))) (.b .n) t9_11), (10, .val (.box (.arr 6 (.int .i64))) (.b .n) t10_12), (11, .val (.int .i64) .n t57_13), (12, .val (.box (.st [.int .i64, .int .i64, .int .i64])) (.b .n) t12_17), (46, .val (.list (.st [.int .i64, .int .i64, .int .i64])) .n t0_1), (47, .val (.int .i64) .n t47_4), (48, .val (.int .i64) .n t48_5), (55, .val (.list (.st [.int .i64, .int .i64, .int .i64])) .n t55_9), (56, .val (.int .i64) .n t56_10), (57, .val (.int .i64) .n t57_13)]) H (by subst hA; rfl) (fun t12_17 H => ?_)
              clear ob1 hM hA M A
              refine tr_rg hP tabOk hsp fun A hA M hM => ?_
              cbv
              refine hM _ ?_
              refine tr_keep [0, 5, 7, 8, 9, 10, 11, 12, 46, 47, 48, 55, 56, 57, 66] (σ' := mkSl 107 0 [(0, .val (.list (.st [.int .i64, .int .i64, .int .i64])) .n t0_1), (5, .val (.list (.arr 6 (.int .i64))) (.l .n) r_3.1), (7, .val (.int .i64) .n t48_5), (8, .val (.box (.st [.int .i64, .int .i64, .int .i64])) (.b .n) t8_7), (9, .val (.box (.arr 6 (.int .i64))) (.b .n) t9_11), (10, .val (.box (.arr 6 (.int .i64))) (.b .n) t10_12), (11, .val (.int .i64) .n t57_13), (12, .val (.box (.st [.int .i64, .int .i64, .int .i64])) (.b .n) t12_17), (46, .val (.list (.st [.int .i64, .int .i64, .int .i64])) .n t0_1), (47, .val (.int .i64) .n t47_4), (48, .val (.int .i64) .n t48_5), (55, .val (.list (.st [.int .i64, .int .i64, .int .i64])) .n t55_9), (56, .val (.int .i64) .n t56_10), (57, .val (.int .i64) .n t57_13), (66, .val (.bool) .n (t12_17.1 == t8_7.1))]) (by subst hA; rfl) ?_
              clear hM hA M A
              refine tr_join (z := r2) (fun y : List Int => VectTakes_J3 r_3 t8_7 t10_12 t57_13 t12_17 y) (fun y : List Int => mkSl 107 0 [(0, .val (.list (.st [.int .i64, .int .i64, .int .i64])) .n t0_1), (5, .val (.list (.arr 6 (.int .i64))) (.l .n) r_3.1), (7, .val (.int .i64) .n t48_5), (8, .val (.box (.st [.int .i64, .int .i64, .int .i64])) (.b .n) t8_7), (9, .val (.box (.arr 6 (.int .i64))) (.b .n) y), (10, .val (.box (.arr 6 (.int .i64))) (.b .n) t10_12), (11, .val (.int .i64) .n t57_13), (12, .val (.box (.st [.int .i64, .int .i64, .int .i64])) (.b .n) t12_17), (46, .val (.list (.st [.int .i64, .int .i64, .int .i64])) .n t0_1), (47, .val (.int .i64) .n t47_4), (48, .val (.int .i64) .n t48_5), (55, .val (.list (.st [.int .i64, .int .i64, .int .i64])) .n t55_9), (56, .val (.int .i64) .n t56_10), (57, .val (.int .i64) .n t57_13)]) [0, 5, 7, 8, 9, 10, 11, 12, 46, 47, 48, 55, 56, 57] (fun _ h => h) (fun y H => ?_) (fun hJ3 => ?_)
              · obtain ⟨t9_18, rfl⟩ : ∃ v, v = y := ⟨y, rfl⟩
                replace H : VectTakes_J3 r_3 t8_7 t10_12 t57_13 t12_17 t9_18 = some r2 := H
                unfold VectTakes_J3 at H
                refine tr_seq ?_
                refine tr_rg hP tabOk hsp fun A hA M hM => ?_
                cbv
                refine hM _ ?_
                refine tr_keep [0, 5, 7, 8, 9, 10, 11, 46, 47, 48, 55, 56, 57, 85] (σ' := mkSl 107 0 [(0, .val (.list (.st [.int .i64, .int .i64, .int .i64])) .n t0_1), (5, .val (.list (.arr 6 (.int .i64))) (.l .n) r_3.1), (7, .val (.int .i64) .n t48_5), (8, .val (.box (.st [.int .i64, .int .i64, .int .i64])) (.b .n) t8_7), (9, .val (.box (.arr 6 (.int .i64))) (.b .n) t9_18), (10, .val (.box (.arr 6 (.int .i64))) (.b .n) t10_12), (11, .val (.int .i64) .n t57_13), (46, .val (.list (.st [.int .i64, .int .i64, .int .i64])) .n t0_1), (47, .val (.int .i64) .n t47_4), (48, .val (.int .i64) .n t48_5), (55, .val (.list (.st [.int .i64, .int .i64, .int .i64])) .n t55_9), (56, .val (.int .i64) .n t56_10), (57, .val (.int .i64) .n t57_13), (85, .val (.bool) .n (((t8_7.2.1 == (3 : Int)) && (t12_17.2.1 == (2 : Int))) && (t12_17.2.2.1 == t8_7.2.2.1)))]) (by subst hA; rfl) ?_
                clear hM hA M A
                refine tr_join (z := r2) (fun y : List Int => VectTakes_J4 t57_13 t9_18 y) (fun y : List Int => mkSl 107 0 [(0, .val (.list (.st [.int .i64, .int .i64, .int .i64])) .n t0_1), (5, .val (.list (.arr 6 (.int .i64))) (.l .n) r_3.1), (7, .val (.int .i64) .n t48_5), (8, .val (.box (.st [.int .i64, .int .i64, .int .i64])) (.b .n) t8_7), (9, .val (.box (.arr 6 (.int .i64))) (.b .n) t9_18), (10, .val (.box (.arr 6 (.int .i64))) (.b .n) y), (46, .val (.list (.st [.int .i64, .int .i64, .int .i64])) .n t0_1), (47, .val (.int .i64) .n t47_4), (48, .val (.int .i64) .n t48_5), (55, .val (.list (.st [.int .i64, .int .i64, .int .i64])) .n t55_9), (56, .val (.int .i64) .n t56_10), (57, .val (.int .i64) .n t57_13)]) [0, 5, 7, 8, 9, 10, 46, 47, 48, 55, 56, 57] (fun _ h => h) (fun y H => ?_) (fun hJ4 => ?_)
                · obtain ⟨t10_19, rfl⟩ : ∃ v, v = y := ⟨y, rfl⟩
                  replace H : VectTakes_J4 t57_13 t9_18 t10_19 = some r2 := H
                  unfold VectTakes_J4 at H
                  refine tr_rg hP tabOk hsp fun A hA M hM => ?_
                  cbv
                  refine hM _ ?_
                  exact Exists.intro _ (And.intro (Option.some.inj H).symm (by subst hA; rfl))
                · refine tr_cond rfl (fun hc => ?_) (fun hc => ?_)
                  · replace H := if_t H hc
                    refine tr_keep [0, 5, 7, 8, 9, 10, 11, 46, 47, 48, 55, 56, 57] (σ' := mkSl 107 0 [(0, .val (.list (.st [.int .i64, .int .i64, .int .i64])) .n t0_1), (5, .val (.list (.arr 6 (.int .i64))) (.l .n) r_3.1), (7, .val (.int .i64) .n t48_5), (8, .val (.box (.st [.int .i64, .int .i64, .int .i64])) (.b .n) t8_7), (9, .val (.box (.arr 6 (.int .i64))) (.b .n) t9_18), (10, .val (.box (.arr 6 (.int .i64))) (.b .n) t10_12), (11, .val (.int .i64) .n t57_13), (46, .val (.list (.st [.int .i64, .int .i64, .int .i64])) .n t0_1), (47, .val (.int .i64) .n t47_4), (48, .val (.int .i64) .n t48_5), (55, .val (.list (.st [.int .i64, .int .i64, .int .i64])) .n t55_9), (56, .val (.int .i64) .n t56_10), (57, .val (.int .i64) .n t57_13)]) rfl ?_
                    refine tr_rg hP tabOk hsp fun A hA M hM => ?_
                    cbv
                    obtain ⟨ob1, H⟩ := ck_out H
                    refine ⟨by subst hA; exact ob1, hM _ ?_⟩
                    exact hJ4 (r_3.1.getD t57_13.toNat (List.replicate 6 (0 : Int))) _ H (by subst hA; rfl)
                  · replace H := if_f H hc
                    refine tr_keep [0, 5, 7, 8, 9, 10, 11, 46, 47, 48, 55, 56, 57] (σ' := mkSl 107 0 [(0, .val (.list (.st [.int .i64, .int .i64, .int .i64])) .n t0_1), (5, .val (.list (.arr 6 (.int .i64))) (.l .n) r_3.1), (7, .val (.int .i64) .n t48_5), (8, .val (.box (.st [.int .i64, .int .i64, .int .i64])) (.b .n) t8_7), (9, .val (.box (.arr 6 (.int .i64))) (.b .n) t9_18), (10, .val (.box (.arr 6 (.int .i64))) (.b .n) t10_12), (11, .val (.int .i64) .n t57_13), (46, .val (.list (.st [.int .i64, .int .i64, .int .i64])) .n t0_1), (47, .val (.int .i64) .n t47_4), (48, .val (.int .i64) .n t48_5), (55, .val (.list (.st [.int .i64, .int .i64, .int .i64])) .n t55_9), (56, .val (.int .i64) .n t56_10), (57, .val (.int .i64) .n t57_13)]) rfl ?_
                    refine tr_skip ?_
                    exact hJ4 t10_12 _ H (by rfl)
              · refine tr_cond rfl (fun hc => ?_) (fun hc => ?_)
                · replace H := if_t H hc
                  refine tr_keep [0, 5, 7, 8, 9, 10, 11, 12, 46, 47, 48, 55, 56, 57] (σ' := mkSl 107 0 [(0, .val (.list (.st [.int .i64, .int .i64, .int .i64])) .n t0_1), (5, .val (.list (.arr 6 (.int .i64))) (.l .n) r_3.1), (7, .val (.int .i64) .n t48_5), (8, .val (.box (.st [.int .i64, .int .i64, .int .i64])) (.b .n) t8_7), (9, .val (.box (.arr 6 (.int .i64))) (.b .n) t9_11), (10, .val (.box (.arr 6 (.int .i64))) (.b .n) t10_12), (11, .val (.int .i64) .n t57_13), (12, .val (.box (.st [.int .i64, .int .i64, .int .i64])) (.b .n) t12_17), (46, .val (.list (.st [.int .i64, .int .i64, .int .i64])) .n t0_1), (47, .val (.int .i64) .n t47_4), (48, .val (.int .i64) .n t48_5), (55, .val (.list (.st [.int .i64, .int .i64, .int .i64])) .n t55_9), (56, .val (.int .i64) .n t56_10), (57, .val (.int .i64) .n t57_13)]) rfl ?_
                  refine tr_rg hP tabOk hsp fun A hA M hM => ?_
                  cbv
                  obtain ⟨ob1, H⟩ := ck_out H
                  refine ⟨by subst hA; exact ob1, hM _ ?_⟩
                  exact hJ3 (r_3.1.getD t57_13.toNat (List.replicate 6 (0 : Int))) _ H (by subst hA; rfl)
                · replace H := if_f H hc
                  refine tr_keep [0, 5, 7, 8, 9, 10, 11, 12, 46, 47, 48, 55, 56, 57] (σ' := mkSl 107 0 [(0, .val (.list (.st [.int .i64, .int .i64, .int .i64])) .n t0_1), (5, .val (.list (.arr 6 (.int .i64))) (.l .n) r_3.1), (7, .val (.int .i64) .n t48_5), (8, .val (.box (.st [.int .i64, .int .i64, .int .i64])) (.b .n) t8_7), (9, .val (.box (.arr 6 (.int .i64))) (.b .n) t9_11), (10, .val (.box (.arr 6 (.int .i64))) (.b .n) t10_12), (11, .val (.int .i64) .n t57_13), (12, .val (.box (.st [.int .i64, .int .i64, .int .i64])) (.b .n) t12_17), (46, .val (.list (.st [.int .i64, .int .i64, .int .i64])) .n t0_1), (47, .val (.int .i64) .n t47_4), (48, .val (.int .i64) .n t48_5), (55, .val (.list (.st [.int .i64, .int .i64, .int .i64])) .n t55_9), (56, .val (.int .i64) .n t56_10), (57, .val (.int .i64) .n t57_13)]) rfl ?_
                  refine tr_skip ?_
                  exact hJ3 t9_11 _ H (by rfl)
            · replace H := if_f H hc
              refine tr_keep [0, 5, 7, 8, 9, 10, 46, 47, 48, 55, 56, 57] (σ' := mkSl 107 0 [(0, .val (.list (.st [.int .i64, .int .i64, .int .i64])) .n t0_1), (5, .val (.list (.arr 6 (.int .i64))) (.l .n) r_3.1), (7, .val (.int .i64) .n t48_5), (8, .val (.box (.st [.int .i64, .int .i64, .int .i64])) (.b .n) t8_7), (9, .val (.box (.arr 6 (.int .i64))) (.b .n) t9_11), (10, .val (.box (.arr 6 (.int .i64))) (.b .n) t10_12), (46, .val (.list (.st [.int .i64, .int .i64, .int .i64])) .n t0_1), (47, .val (.int .i64) .n t47_4), (48, .val (.int .i64) .n t48_5), (55, .val (.list (.st [.int .i64, .int .i64, .int .i64])) .n t55_9), (56, .val (.int .i64) .n t56_10), (57, .val (.int .i64) .n t57_13)]) rfl ?_
              refine tr_exit ?_
              exact And.intro rfl (Exists.intro _ (And.intro (Option.some.inj H).symm (by rfl)))
        · replace H := if_f H hc
          refine tr_keep [0, 5, 46, 47, 48] (σ' := mkSl 107 0 [(0, .val (.list (.st [.int .i64, .int .i64, .int .i64])) .n t0_1), (5, .val (.list (.arr 6 (.int .i64))) (.l .n) r_3.1), (46, .val (.list (.st [.int .i64, .int .i64, .int .i64])) .n t0_1), (47, .val (.int .i64) .n t47_4), (48, .val (.int .i64) .n t48_5)]) rfl ?_
          refine tr_exit ?_
          exact And.intro rfl (Exists.intro _ (And.intro (Option.some.inj H).symm (by rfl)))
theorem VectTakes_sp : ∃ (pg : PT.denL [.list (.st [.int .i64, .int .i64, .int .i64])] → Prop) (fg : PT.denL [.list (.st [.int .i64, .int .i64, .int .i64])] → PT.denL [.bool]), SpecRuns Try.prog 4 ⟨[.list (.st [.int .i64, .int .i64, .int .i64])], [.v], [.bool], [.n], pg, fg⟩ ∧ (∀ {a1 : List ((Int × Int × Int × Unit))} {y : Bool}, VectTakes a1 = some y → pg (a1, ()) ∧ y = (fg (a1, ())).1) ∧ (∀ {a1 : List ((Int × Int × Int × Unit))}, (VectTakes a1).isSome = true → pg (a1, ())) ∧ ∀ {a1 : List ((Int × Int × Int × Unit))}, (VectTakes a1).getD false = (fg (a1, ())).1 := by
  obtain ⟨pg, fg, h, hc, hi, hd⟩ := spec_hide VectTakes_runs
  refine ⟨pg, fg, h, ?_, ?_, ?_⟩
  · intro a1 y e
    obtain ⟨h1, h2⟩ := hc (a1, ()) (y, ()) (congrArg (Option.map fun r => (r, ())) e)
    exact ⟨h1, by first | (rw [h2]; done) | (rw [h2]; rfl)⟩
  · intro a1
    intro e
    exact hi (a1, ()) (map_isSome e)
  · intro a1
    rw [hd (a1, ())]
    cases VectTakes a1 <;> rfl
end Go.Proofs.Ytcghecmefpldmaa.Vc
