/- Functions of the program as functions that may fail, and that the code computes them (printed). Each theorem bears its conditions itself. -/
import Derived.Test.YtcghecmefpldmaaVcDefs
import Derived.Test.YtcghecmefpldmaaVcTab
import Derived.Test.YtcghecmefpldmaaVcVectVectors
import Derived.Test.YtcghecmefpldmaaVcStampStamps
import Derived.Test.YtcghecmefpldmaaVcVectWithin
open Go Go.Proofs.Ytcghecmefpldmaa.Sy Go.Proofs
set_option maxHeartbeats 4000000
set_option maxRecDepth 100000
set_option linter.unusedVariables false
set_option linter.unusedSimpArgs false
namespace Go.Proofs.Ytcghecmefpldmaa.Vc
theorem VectCounts_runs : SpecRuns Try.prog 5 (oSpec [.list (.st [.int .i64, .int .i64, .int .i64])] [.v] [.bool] [.n] fun x => (VectCounts x.1).map fun r => (r, ())) := by
  obtain ⟨pg16, fg16, hs16, hc16, hi16, hd16⟩ := vect_Vectors_sp
  obtain ⟨pg17, fg17, hs17, hc17, hi17, hd17⟩ := stamp_Stamps_sp
  obtain ⟨pg13, fg13, hs13, hc13, hi13, hd13⟩ := vect_Within_sp
  have hsp : SpecsOk Try.prog [(16, ⟨[.list (.st [.int .i64, .int .i64, .int .i64])], [.v], [.list (.arr 6 (.int .i64)), .int .i64], [.l .n, .n], pg16, fg16⟩), (17, ⟨[.list (.st [.int .i64, .int .i64, .int .i64])], [.v], [.list (.int .i64), .int .i64], [.l .n, .n], pg17, fg17⟩), (13, ⟨[.arr 6 (.int .i64), .arr 6 (.int .i64)], [.v, .v], [.bool], [.n], pg13, fg13⟩)] := (specsOk_cons Try.func16 (by kernel_rfl) (by kernel_rfl) hs16 (specsOk_cons Try.func17 (by kernel_rfl) (by kernel_rfl) hs17 (specsOk_cons Try.func13 (by kernel_rfl) (by kernel_rfl) hs13 specsOk_nil)))
  refine runs_of_o tabOk Try.func5 rfl (Nat.le_of_ble_eq_true rfl) rfl ?_
  rintro E ⟨(t0_1 : List ((Int × Int × Int × Unit))), ⟨⟩⟩ y hP H hw
  obtain ⟨z, H1, rfl⟩ := map_out H
  replace H : VectCounts t0_1 = some z := H1
  clear hw H1
  unfold VectCounts at H
  refine tr_keep [0] (σ' := mkSl 109 0 [(0, .val (.list (.st [.int .i64, .int .i64, .int .i64])) .n t0_1)]) rfl ?_
  refine tr_seq ?_
  refine tr_rg hP tabOk hsp fun A hA M hM => ?_
  cbv
  refine hM _ ?_
  refine tr_seq ?_
  refine tr_seq ?_
  refine tr_keep [0] (σ' := mkSl 109 0 [(0, .val (.list (.st [.int .i64, .int .i64, .int .i64])) .n t0_1)]) (by subst hA; rfl) ?_
  clear hM hA M A
  refine tr_rg hP tabOk hsp fun A hA M hM => ?_
  cbv
  obtain ⟨r_2, hr1, H⟩ := bind_out H
  obtain ⟨pq1, eq1⟩ := hc16 hr1
  refine ⟨by subst hA; subst eq1; exact pq1, hM _ ?_⟩
  refine tr_seq ?_
  refine tr_keep [0, 3, 4] (σ' := mkSl 109 0 [(0, .val (.list (.st [.int .i64, .int .i64, .int .i64])) .n t0_1), (3, .val (.list (.arr 6 (.int .i64))) (.l .n) r_2.1), (4, .val (.int .i64) .n r_2.2)]) (by subst hA; subst eq1; rfl) ?_
  clear pq1 eq1 hr1 hM hA M A
  refine tr_rg hP tabOk hsp fun A hA M hM => ?_
  cbv
  obtain ⟨ob1, H⟩ := ck_out H
  refine ⟨by subst hA; exact ob1, hM _ ?_⟩
  refine tr_keep [0, 35] (σ' := mkSl 109 0 [(0, .val (.list (.st [.int .i64, .int .i64, .int .i64])) .n t0_1), (35, .val (.bool) .n (((r_2.2 != (0 : Int)) || ((r_2.1.length : Int) != (2 : Int))) || (!(eqA6I (r_2.1.getD 1 (List.replicate 6 (0 : Int))) [(0 : Int), (0 : Int), (2 : Int), (0 : Int), (0 : Int), (0 : Int)]))))]) (by subst hA; rfl) ?_
  clear ob1 hM hA M A
  refine tr_cond rfl (fun hc => ?_) (fun hc => ?_)
  · replace H := if_t H hc
    refine tr_keep [0] (σ' := mkSl 109 0 [(0, .val (.list (.st [.int .i64, .int .i64, .int .i64])) .n t0_1)]) rfl ?_
    refine tr_seq ?_
    refine tr_rg hP tabOk hsp fun A hA M hM => ?_
    cbv
    refine hM _ ?_
    refine tr_ret ?_
    have hr := Option.some.inj H
    subst hr
    subst hA
    exact rfl
  · replace H := if_f H hc
    refine tr_keep [0] (σ' := mkSl 109 0 [(0, .val (.list (.st [.int .i64, .int .i64, .int .i64])) .n t0_1)]) rfl ?_
    refine tr_skip ?_
    refine tr_seq ?_
    refine tr_rg hP tabOk hsp fun A hA M hM => ?_
    cbv
    obtain ⟨r_3, hr1, H⟩ := bind_out H
    obtain ⟨pq1, eq1⟩ := hc16 hr1
    refine ⟨by subst hA; subst eq1; exact pq1, hM _ ?_⟩
    refine tr_seq ?_
    refine tr_keep [0, 5, 6] (σ' := mkSl 109 0 [(0, .val (.list (.st [.int .i64, .int .i64, .int .i64])) .n t0_1), (5, .val (.list (.arr 6 (.int .i64))) (.l .n) r_3.1), (6, .val (.int .i64) .n r_3.2)]) (by subst hA; subst eq1; rfl) ?_
    clear pq1 eq1 hr1 hM hA M A
    refine tr_rg hP tabOk hsp fun A hA M hM => ?_
    cbv
    obtain ⟨r_4, hr1, H⟩ := bind_out H
    obtain ⟨pq1, eq1⟩ := hc17 hr1
    refine ⟨by subst hA; subst eq1; exact pq1, hM _ ?_⟩
    refine tr_seq ?_
    refine tr_seq ?_
    refine tr_keep [0, 5, 6, 7, 8] (σ' := mkSl 109 0 [(0, .val (.list (.st [.int .i64, .int .i64, .int .i64])) .n t0_1), (5, .val (.list (.arr 6 (.int .i64))) (.l .n) r_3.1), (6, .val (.int .i64) .n r_3.2), (7, .val (.list (.int .i64)) (.l .n) r_4.1), (8, .val (.int .i64) .n r_4.2)]) (by subst hA; subst eq1; rfl) ?_
    clear pq1 eq1 hr1 hM hA M A
    refine tr_rg hP tabOk hsp fun A hA M hM => ?_
    cbv
    refine hM _ ?_
    refine tr_keep [0, 5, 6, 7, 8, 51] (σ' := mkSl 109 0 [(0, .val (.list (.st [.int .i64, .int .i64, .int .i64])) .n t0_1), (5, .val (.list (.arr 6 (.int .i64))) (.l .n) r_3.1), (6, .val (.int .i64) .n r_3.2), (7, .val (.list (.int .i64)) (.l .n) r_4.1), (8, .val (.int .i64) .n r_4.2), (51, .val (.bool) .n ((r_3.2 != (0 : Int)) || (r_4.2 != (0 : Int))))]) (by subst hA; rfl) ?_
    clear hM hA M A
    refine tr_cond rfl (fun hc => ?_) (fun hc => ?_)
    · replace H := if_t H hc
      refine tr_keep [0, 5, 6, 7, 8] (σ' := mkSl 109 0 [(0, .val (.list (.st [.int .i64, .int .i64, .int .i64])) .n t0_1), (5, .val (.list (.arr 6 (.int .i64))) (.l .n) r_3.1), (6, .val (.int .i64) .n r_3.2), (7, .val (.list (.int .i64)) (.l .n) r_4.1), (8, .val (.int .i64) .n r_4.2)]) rfl ?_
      refine tr_seq ?_
      refine tr_rg hP tabOk hsp fun A hA M hM => ?_
      cbv
      refine hM _ ?_
      refine tr_ret ?_
      have hr := Option.some.inj H
      subst hr
      subst hA
      exact rfl
    · replace H := if_f H hc
      refine tr_keep [0, 5, 6, 7, 8] (σ' := mkSl 109 0 [(0, .val (.list (.st [.int .i64, .int .i64, .int .i64])) .n t0_1), (5, .val (.list (.arr 6 (.int .i64))) (.l .n) r_3.1), (6, .val (.int .i64) .n r_3.2), (7, .val (.list (.int .i64)) (.l .n) r_4.1), (8, .val (.int .i64) .n r_4.2)]) rfl ?_
      refine tr_skip ?_
      refine tr_seq ?_
      refine tr_rg hP tabOk hsp fun A hA M hM => ?_
      cbv
      refine hM _ ?_
      refine tr_seq ?_
      refine tr_seq ?_
      refine tr_keepL [0, 5, 7, 9] (fun t9_5 : List Int => mkSl 109 0 [(0, .val (.list (.st [.int .i64, .int .i64, .int .i64])) .n t0_1), (5, .val (.list (.arr 6 (.int .i64))) (.l .n) r_3.1), (7, .val (.list (.int .i64)) (.l .n) r_4.1), (9, .val (.box (.arr 6 (.int .i64))) (.b .n) t9_5)]) H (by subst hA; rfl) (fun t9_5 H => ?_)
      clear hM hA M A
      refine tr_rg hP tabOk hsp fun A hA M hM => ?_
      cbv
      refine hM _ ?_
      refine tr_block ?_
      refine tr_keepL [5, 7, 9, 55, 56, 57] (fun t56_6 : Int => mkSl 109 0 [(5, .val (.list (.arr 6 (.int .i64))) (.l .n) r_3.1), (7, .val (.list (.int .i64)) (.l .n) r_4.1), (9, .val (.box (.arr 6 (.int .i64))) (.b .n) t9_5), (55, .val (.list (.st [.int .i64, .int .i64, .int .i64])) .n t0_1), (56, .val (.int .i64) .n t56_6), (57, .val (.int .i64) .n (0 : Int))]) H (by subst hA; rfl) (fun t56_6 H => ?_)
      clear hM hA M A
      obtain ⟨q, hq, Hl, Hr⟩ := bindE_out H
      refine tr_loopE 0 (fun x : List Int × Int => VectCounts_L1 t0_1 r_3 r_4 t56_6 x.1 x.2) (fun x : List Int × Int => mkSl 109 0 [(5, .val (.list (.arr 6 (.int .i64))) (.l .n) r_3.1), (7, .val (.list (.int .i64)) (.l .n) r_4.1), (9, .val (.box (.arr 6 (.int .i64))) (.b .n) x.1), (55, .val (.list (.st [.int .i64, .int .i64, .int .i64])) .n t0_1), (56, .val (.int .i64) .n t56_6), (57, .val (.int .i64) .n x.2)]) [5, 7, 9, 55, 56, 57] (fun q_9 : Unit => mkSl 109 0 []) [] hq rfl Hr (fun q_9 hl σ' h => ?_) (fun x r1 H => ?_)
      · replace H := Hl q_9 hl
        refine tr_keep [] h ?_
        refine tr_seq ?_
        refine tr_rg hP tabOk hsp fun A hA M hM => ?_
        cbv
        refine hM _ ?_
        refine tr_ret ?_
        have hr := Option.some.inj H
        subst hr
        subst hA
        exact rfl
      · obtain ⟨t9_7, t57_8⟩ := x
        replace H : VectCounts_L1 t0_1 r_3 r_4 t56_6 t9_7 t57_8 = some r1 := H
        unfold VectCounts_L1 at H
        refine tr_seq ?_
        refine tr_rg hP tabOk hsp fun A hA M hM => ?_
        cbv
        refine hM _ ?_
        refine tr_seq ?_
        refine tr_keep [5, 7, 9, 55, 56, 57, 58] (σ' := mkSl 109 0 [(5, .val (.list (.arr 6 (.int .i64))) (.l .n) r_3.1), (7, .val (.list (.int .i64)) (.l .n) r_4.1), (9, .val (.box (.arr 6 (.int .i64))) (.b .n) t9_7), (55, .val (.list (.st [.int .i64, .int .i64, .int .i64])) .n t0_1), (56, .val (.int .i64) .n t56_6), (57, .val (.int .i64) .n t57_8), (58, .val (.bool) .n (decide (t57_8 < t56_6)))]) (by subst hA; rfl) ?_
        clear hM hA M A
        refine tr_cond rfl (fun hc => ?_) (fun hc => ?_)
        · replace H := if_t H hc
          refine tr_keep [5, 7, 9, 55, 56, 57] (σ' := mkSl 109 0 [(5, .val (.list (.arr 6 (.int .i64))) (.l .n) r_3.1), (7, .val (.list (.int .i64)) (.l .n) r_4.1), (9, .val (.box (.arr 6 (.int .i64))) (.b .n) t9_7), (55, .val (.list (.st [.int .i64, .int .i64, .int .i64])) .n t0_1), (56, .val (.int .i64) .n t56_6), (57, .val (.int .i64) .n t57_8)]) rfl ?_
          refine tr_skip ?_
          refine tr_seq ?_
          refine tr_block ?_
          refine tr_seq ?_
          refine tr_rg hP tabOk hsp fun A hA M hM => ?_
          cbv
          obtain ⟨ob1, H⟩ := ck_out H
          refine ⟨by subst hA; exact ob1, hM _ ?_⟩
          refine tr_seq ?_
          refine tr_keepL [5, 7, 9, 10, 11, 55, 56, 57] (fun t11_10 : (Int × Int × Int × Unit) => mkSl 109 0 [(5, .val (.list (.arr 6 (.int .i64))) (.l .n) r_3.1), (7, .val (.list (.int .i64)) (.l .n) r_4.1), (9, .val (.box (.arr 6 (.int .i64))) (.b .n) t9_7), (10, .val (.int .i64) .n t57_8), (11, .val (.box (.st [.int .i64, .int .i64, .int .i64])) (.b .n) t11_10), (55, .val (.list (.st [.int .i64, .int .i64, .int .i64])) .n t0_1), (56, .val (.int .i64) .n t56_6), (57, .val (.int .i64) .n t57_8)]) H (by subst hA; rfl) (fun t11_10 H => ?_)
          clear ob1 hM hA M A
          refine tr_rg hP tabOk hsp fun A hA M hM => ?_
          cbv
          obtain ⟨ob1, H⟩ := ck_out H
          obtain ⟨ob2, H⟩ := ck_out H
          refine ⟨by subst hA; exact ob1, by subst hA; exact ob2, hM _ ?_⟩
          refine tr_seq ?_
          refine tr_keepL [5, 7, 9, 10, 11, 55, 56, 57] (fun t9_11 : List Int => mkSl 109 0 [(5, .val (.list (.arr 6 (.int .i64))) (.l .n) r_3.1), (7, .val (.list (.int .i64)) (.l .n) r_4.1), (9, .val (.box (.arr 6 (.int .i64))) (.b .n) t9_11), (10, .val (.int .i64) .n t57_8), (11, .val (.box (.st [.int .i64, .int .i64, .int .i64])) (.b .n) t11_10), (55, .val (.list (.st [.int .i64, .int .i64, .int .i64])) .n t0_1), (56, .val (.int .i64) .n t56_6), (57, .val (.int .i64) .n t57_8)]) H (by subst hA; rfl) (fun t9_11 H => ?_)
          clear ob2 ob1 hM hA M A
          refine tr_rg hP tabOk hsp fun A hA M hM => ?_
          cbv
          refine hM _ ?_
          refine tr_seq ?_
          refine tr_seq ?_
          refine tr_keep [5, 7, 9, 10, 11, 12, 55, 56, 57] (σ' := mkSl 109 0 [(5, .val (.list (.arr 6 (.int .i64))) (.l .n) r_3.1), (7, .val (.list (.int .i64)) (.l .n) r_4.1), (9, .val (.box (.arr 6 (.int .i64))) (.b .n) t9_11), (10, .val (.int .i64) .n t57_8), (11, .val (.box (.st [.int .i64, .int .i64, .int .i64])) (.b .n) t11_10), (12, .val (.int .i64) .n (0 : Int)), (55, .val (.list (.st [.int .i64, .int .i64, .int .i64])) .n t0_1), (56, .val (.int .i64) .n t56_6), (57, .val (.int .i64) .n t57_8)]) (by subst hA; rfl) ?_
          clear hM hA M A
          refine tr_rg hP tabOk hsp fun A hA M hM => ?_
          cbv
          obtain ⟨ob1, H⟩ := ck_out H
          refine ⟨by subst hA; exact ob1, hM _ ?_⟩
          refine tr_block ?_
          refine tr_keepL [5, 7, 9, 10, 11, 12, 55, 56, 57, 71, 72] (fun t71_12 : List Int => mkSl 109 0 [(5, .val (.list (.arr 6 (.int .i64))) (.l .n) r_3.1), (7, .val (.list (.int .i64)) (.l .n) r_4.1), (9, .val (.box (.arr 6 (.int .i64))) (.b .n) t9_11), (10, .val (.int .i64) .n t57_8), (11, .val (.box (.st [.int .i64, .int .i64, .int .i64])) (.b .n) t11_10), (12, .val (.int .i64) .n (0 : Int)), (55, .val (.list (.st [.int .i64, .int .i64, .int .i64])) .n t0_1), (56, .val (.int .i64) .n t56_6), (57, .val (.int .i64) .n t57_8), (71, .val (.arr 6 (.int .i64)) .n t71_12), (72, .val (.int .i64) .n (0 : Int))]) H (by subst hA; rfl) (fun t71_12 H => ?_)
          clear ob1 hM hA M A
          obtain ⟨q_16, hq, H⟩ := bind_out H
          refine tr_loopB 2 (fun x : Int × Int => VectCounts_L2 t71_12 x.1 x.2) (fun x : Int × Int => mkSl 109 0 [(5, .val (.list (.arr 6 (.int .i64))) (.l .n) r_3.1), (7, .val (.list (.int .i64)) (.l .n) r_4.1), (9, .val (.box (.arr 6 (.int .i64))) (.b .n) t9_11), (10, .val (.int .i64) .n t57_8), (11, .val (.box (.st [.int .i64, .int .i64, .int .i64])) (.b .n) t11_10), (12, .val (.int .i64) .n x.1), (55, .val (.list (.st [.int .i64, .int .i64, .int .i64])) .n t0_1), (56, .val (.int .i64) .n t56_6), (57, .val (.int .i64) .n t57_8), (71, .val (.arr 6 (.int .i64)) .n t71_12), (72, .val (.int .i64) .n x.2)]) [5, 7, 9, 10, 11, 12, 55, 56, 57, 71, 72] (fun q_16 : Int => mkSl 109 0 [(5, .val (.list (.arr 6 (.int .i64))) (.l .n) r_3.1), (7, .val (.list (.int .i64)) (.l .n) r_4.1), (9, .val (.box (.arr 6 (.int .i64))) (.b .n) t9_11), (10, .val (.int .i64) .n t57_8), (11, .val (.box (.st [.int .i64, .int .i64, .int .i64])) (.b .n) t11_10), (12, .val (.int .i64) .n q_16), (55, .val (.list (.st [.int .i64, .int .i64, .int .i64])) .n t0_1), (56, .val (.int .i64) .n t56_6), (57, .val (.int .i64) .n t57_8)]) [5, 7, 9, 10, 11, 12, 55, 56, 57] hq rfl (fun σ' h => ?_) (fun x r2 H => ?_)
          · refine tr_keep [5, 7, 9, 10, 11, 12, 55, 56, 57] h ?_
            refine tr_seq ?_
            refine tr_rg hP tabOk hsp fun A hA M hM => ?_
            cbv
            obtain ⟨ob1, H⟩ := ck_out H
            obtain ⟨ob2, H⟩ := ck_out H
            obtain ⟨ob3, H⟩ := ck_out H
            obtain ⟨ob4, H⟩ := ck_out H
            obtain ⟨ob5, H⟩ := ck_out H
            obtain ⟨r_19, er6, H⟩ := letO_out H
            obtain ⟨ob6, H⟩ := ck_out H
            have eq6 := er6.trans hd13
            refine ⟨by subst hA; exact ob1, by subst hA; exact ob2, by subst hA; exact ob3, by subst hA; exact ob4, by subst hA; exact ob5, by subst hA; subst eq6; exact fun h0 => hi13 (ob6 h0), hM _ ?_⟩
            refine tr_keep [5, 7, 9, 55, 56, 57, 107] (σ' := mkSl 109 0 [(5, .val (.list (.arr 6 (.int .i64))) (.l .n) r_3.1), (7, .val (.list (.int .i64)) (.l .n) r_4.1), (9, .val (.box (.arr 6 (.int .i64))) (.b .n) t9_11), (55, .val (.list (.st [.int .i64, .int .i64, .int .i64])) .n t0_1), (56, .val (.int .i64) .n t56_6), (57, .val (.int .i64) .n t57_8), (107, .val (.bool) .n (((((r_3.1.getD t57_8.toNat (List.replicate 6 (0 : Int))).getD t11_10.1.toNat (0 : Int)) != (t9_11.getD t11_10.1.toNat (0 : Int))) || (decide ((r_4.1.getD t57_8.toNat (0 : Int)) > q_16))) || (!r_19)))]) (by subst hA; subst eq6; rfl) ?_
            clear ob6 eq6 er6 ob5 ob4 ob3 ob2 ob1 hM hA M A
            refine tr_cond rfl (fun hc => ?_) (fun hc => ?_)
            · replace H := if_t H hc
              refine tr_keep [5, 7, 9, 55, 56, 57] (σ' := mkSl 109 0 [(5, .val (.list (.arr 6 (.int .i64))) (.l .n) r_3.1), (7, .val (.list (.int .i64)) (.l .n) r_4.1), (9, .val (.box (.arr 6 (.int .i64))) (.b .n) t9_11), (55, .val (.list (.st [.int .i64, .int .i64, .int .i64])) .n t0_1), (56, .val (.int .i64) .n t56_6), (57, .val (.int .i64) .n t57_8)]) rfl ?_
              refine tr_seq ?_
              refine tr_rg hP tabOk hsp fun A hA M hM => ?_
              cbv
              refine hM _ ?_
              refine tr_ret ?_
              have hr := Option.some.inj H
              refine Exists.intro _ (And.intro hr.symm (fun hr => ?_))
              subst hr
              subst hA
              exact rfl
            · replace H := if_f H hc
              refine tr_keep [5, 7, 9, 55, 56, 57] (σ' := mkSl 109 0 [(5, .val (.list (.arr 6 (.int .i64))) (.l .n) r_3.1), (7, .val (.list (.int .i64)) (.l .n) r_4.1), (9, .val (.box (.arr 6 (.int .i64))) (.b .n) t9_11), (55, .val (.list (.st [.int .i64, .int .i64, .int .i64])) .n t0_1), (56, .val (.int .i64) .n t56_6), (57, .val (.int .i64) .n t57_8)]) rfl ?_
              refine tr_skip ?_
              refine tr_rg hP tabOk hsp fun A hA M hM => ?_
              cbv
              refine hM _ ?_
              exact Exists.intro _ (And.intro (Option.some.inj H).symm (by subst hA; rfl))
          · obtain ⟨t12_13, t72_14⟩ := x
            replace H : VectCounts_L2 t71_12 t12_13 t72_14 = some r2 := H
            unfold VectCounts_L2 at H
            refine tr_seq ?_
            refine tr_rg hP tabOk hsp fun A hA M hM => ?_
            cbv
            refine hM _ ?_
            refine tr_seq ?_
            refine tr_keep [5, 7, 9, 10, 11, 12, 55, 56, 57, 71, 72, 73] (σ' := mkSl 109 0 [(5, .val (.list (.arr 6 (.int .i64))) (.l .n) r_3.1), (7, .val (.list (.int .i64)) (.l .n) r_4.1), (9, .val (.box (.arr 6 (.int .i64))) (.b .n) t9_11), (10, .val (.int .i64) .n t57_8), (11, .val (.box (.st [.int .i64, .int .i64, .int .i64])) (.b .n) t11_10), (12, .val (.int .i64) .n t12_13), (55, .val (.list (.st [.int .i64, .int .i64, .int .i64])) .n t0_1), (56, .val (.int .i64) .n t56_6), (57, .val (.int .i64) .n t57_8), (71, .val (.arr 6 (.int .i64)) .n t71_12), (72, .val (.int .i64) .n t72_14), (73, .val (.bool) .n (decide (t72_14 < (6 : Int))))]) (by subst hA; rfl) ?_
            clear hM hA M A
            refine tr_cond rfl (fun hc => ?_) (fun hc => ?_)
            · replace H := if_t H hc
              refine tr_keep [5, 7, 9, 10, 11, 12, 55, 56, 57, 71, 72] (σ' := mkSl 109 0 [(5, .val (.list (.arr 6 (.int .i64))) (.l .n) r_3.1), (7, .val (.list (.int .i64)) (.l .n) r_4.1), (9, .val (.box (.arr 6 (.int .i64))) (.b .n) t9_11), (10, .val (.int .i64) .n t57_8), (11, .val (.box (.st [.int .i64, .int .i64, .int .i64])) (.b .n) t11_10), (12, .val (.int .i64) .n t12_13), (55, .val (.list (.st [.int .i64, .int .i64, .int .i64])) .n t0_1), (56, .val (.int .i64) .n t56_6), (57, .val (.int .i64) .n t57_8), (71, .val (.arr 6 (.int .i64)) .n t71_12), (72, .val (.int .i64) .n t72_14)]) rfl ?_
              refine tr_skip ?_
              refine tr_seq ?_
              refine tr_block ?_
              refine tr_seq ?_
              refine tr_rg hP tabOk hsp fun A hA M hM => ?_
              cbv
              obtain ⟨ob1, H⟩ := ck_out H
              refine ⟨by subst hA; exact ob1, hM _ ?_⟩
              refine tr_keepL [5, 7, 9, 10, 11, 12, 14, 55, 56, 57, 71, 72] (fun t14_17 : Int => mkSl 109 0 [(5, .val (.list (.arr 6 (.int .i64))) (.l .n) r_3.1), (7, .val (.list (.int .i64)) (.l .n) r_4.1), (9, .val (.box (.arr 6 (.int .i64))) (.b .n) t9_11), (10, .val (.int .i64) .n t57_8), (11, .val (.box (.st [.int .i64, .int .i64, .int .i64])) (.b .n) t11_10), (12, .val (.int .i64) .n t12_13), (14, .val (.int .i64) .n t14_17), (55, .val (.list (.st [.int .i64, .int .i64, .int .i64])) .n t0_1), (56, .val (.int .i64) .n t56_6), (57, .val (.int .i64) .n t57_8), (71, .val (.arr 6 (.int .i64)) .n t71_12), (72, .val (.int .i64) .n t72_14)]) H (by subst hA; rfl) (fun t14_17 H => ?_)
              clear ob1 hM hA M A
              refine tr_rg hP tabOk hsp fun A hA M hM => ?_
              cbv
              refine hM _ ?_
              refine tr_keepL [5, 7, 9, 10, 11, 12, 55, 56, 57, 71, 72] (fun t12_18 : Int => mkSl 109 0 [(5, .val (.list (.arr 6 (.int .i64))) (.l .n) r_3.1), (7, .val (.list (.int .i64)) (.l .n) r_4.1), (9, .val (.box (.arr 6 (.int .i64))) (.b .n) t9_11), (10, .val (.int .i64) .n t57_8), (11, .val (.box (.st [.int .i64, .int .i64, .int .i64])) (.b .n) t11_10), (12, .val (.int .i64) .n t12_18), (55, .val (.list (.st [.int .i64, .int .i64, .int .i64])) .n t0_1), (56, .val (.int .i64) .n t56_6), (57, .val (.int .i64) .n t57_8), (71, .val (.arr 6 (.int .i64)) .n t71_12), (72, .val (.int .i64) .n t72_14)]) H (by subst hA; rfl) (fun t12_18 H => ?_)
              clear hM hA M A
              refine tr_rg hP tabOk hsp fun A hA M hM => ?_
              cbv
              refine hM _ ?_
              exact Exists.intro _ (And.intro (Option.some.inj H).symm (by subst hA; rfl))
            · replace H := if_f H hc
              refine tr_keep [5, 7, 9, 10, 11, 12, 55, 56, 57, 71, 72] (σ' := mkSl 109 0 [(5, .val (.list (.arr 6 (.int .i64))) (.l .n) r_3.1), (7, .val (.list (.int .i64)) (.l .n) r_4.1), (9, .val (.box (.arr 6 (.int .i64))) (.b .n) t9_11), (10, .val (.int .i64) .n t57_8), (11, .val (.box (.st [.int .i64, .int .i64, .int .i64])) (.b .n) t11_10), (12, .val (.int .i64) .n t12_13), (55, .val (.list (.st [.int .i64, .int .i64, .int .i64])) .n t0_1), (56, .val (.int .i64) .n t56_6), (57, .val (.int .i64) .n t57_8), (71, .val (.arr 6 (.int .i64)) .n t71_12), (72, .val (.int .i64) .n t72_14)]) rfl ?_
              refine tr_exit ?_
              exact And.intro rfl (Exists.intro _ (And.intro (Option.some.inj H).symm (by rfl)))
        · replace H := if_f H hc
          refine tr_keep [5, 7, 9, 55, 56, 57] (σ' := mkSl 109 0 [(5, .val (.list (.arr 6 (.int .i64))) (.l .n) r_3.1), (7, .val (.list (.int .i64)) (.l .n) r_4.1), (9, .val (.box (.arr 6 (.int .i64))) (.b .n) t9_7), (55, .val (.list (.st [.int .i64, .int .i64, .int .i64])) .n t0_1), (56, .val (.int .i64) .n t56_6), (57, .val (.int .i64) .n t57_8)]) rfl ?_
          refine tr_exit ?_
          exact And.intro rfl (Exists.intro _ (And.intro (Option.some.inj H).symm (by rfl)))
theorem VectCounts_sp : ∃ (pg : PT.denL [.list (.st [.int .i64, .int .i64, .int .i64])] → Prop) (fg : PT.denL [.list (.st [.int .i64, .int .i64, .int .i64])] → PT.denL [.bool]), SpecRuns Try.prog 5 ⟨[.list (.st [.int .i64, .int .i64, .int .i64])], [.v], [.bool], [.n], pg, fg⟩ ∧ (∀ {a1 : List ((Int × Int × Int × Unit))} {y : Bool}, VectCounts a1 = some y → pg (a1, ()) ∧ y = (fg (a1, ())).1) ∧ (∀ {a1 : List ((Int × Int × Int × Unit))}, (VectCounts a1).isSome = true → pg (a1, ())) ∧ ∀ {a1 : List ((Int × Int × Int × Unit))}, (VectCounts a1).getD false = (fg (a1, ())).1 := by
  obtain ⟨pg, fg, h, hc, hi, hd⟩ := spec_hide VectCounts_runs
  refine ⟨pg, fg, h, ?_, ?_, ?_⟩
  · intro a1 y e
    obtain ⟨h1, h2⟩ := hc (a1, ()) (y, ()) (congrArg (Option.map fun r => (r, ())) e)
    exact ⟨h1, by first | (rw [h2]; done) | (rw [h2]; rfl)⟩
  · intro a1
    intro e
    exact hi (a1, ()) (map_isSome e)
  · intro a1
    rw [hd (a1, ())]
    cases VectCounts a1 <;> rfl
end Go.Proofs.Ytcghecmefpldmaa.Vc
