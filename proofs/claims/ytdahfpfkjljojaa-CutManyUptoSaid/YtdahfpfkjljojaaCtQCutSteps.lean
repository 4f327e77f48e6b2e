/- Functions of the program as functions that may fail, and that the code computes them (printed). Each theorem bears its conditions itself. -/
import Derived.Test.YtdahfpfkjljojaaCtDefs
import Derived.Test.YtdahfpfkjljojaaCtTab
import Derived.Test.YtdahfpfkjljojaaCtQsent
import Derived.Test.YtdahfpfkjljojaaCtQcutQAll
import Derived.Test.YtdahfpfkjljojaaCtQslicesQEqualQLVectorQVector
import Derived.Test.YtdahfpfkjljojaaCtQsomeCut
import Derived.Test.YtdahfpfkjljojaaCtQcutQRight
import Derived.Test.YtdahfpfkjljojaaCtQslicesQContainsQLVectorQVector
import Derived.Test.YtdahfpfkjljojaaCtQRQSizes
open Go Go.Proofs.Ytdahfpfkjljojaa.Sy Go.Proofs
set_option maxHeartbeats 4000000
set_option maxRecDepth 100000
set_option cbv.maxSteps 10000000
set_option linter.unusedVariables false
set_option linter.unusedSimpArgs false
namespace Go.Proofs.Ytdahfpfkjljojaa.Ct
theorem CutSteps_runs : SpecRuns Try.prog 7 (oSpec [.list (.st [.int .i64, .int .i64, .int .i64]), .arr 6 (.int .i64)] [.v, .v] [.bool] [.n] fun x => (CutSteps x.1 x.2.1).map fun r => (r, ())) := by
  obtain ⟨pg13, fg13, hs13, hc13, hi13, hd13⟩ := sent_sp
  obtain ⟨pg21, fg21, hs21, hc21, hi21, hd21⟩ := cut_All_sp
  obtain ⟨pg25, fg25, hs25, hc25, hi25, hd25⟩ := slices_Equal_LVector_Vector_sp
  obtain ⟨pg15, fg15, hs15, hc15, hi15, hd15⟩ := someCut_sp
  obtain ⟨pg16, fg16, hs16, hc16, hi16, hd16⟩ := cut_Right_sp
  obtain ⟨pg26, fg26, hs26, hc26, hi26, hd26⟩ := slices_Contains_LVector_Vector_sp
  obtain ⟨pg27, fg27, hs27, hc27, hi27, hd27⟩ := R_Sizes_sp
  have hsp : SpecsOk Try.prog [(13, ⟨[], [], [.list (.st [.int .i64, .int .i64, .int .i64])], [.l .n], pg13, fg13⟩), (21, ⟨[.list (.st [.int .i64, .int .i64, .int .i64])], [.v], [.list (.arr 6 (.int .i64)), .int .i64], [.l .n, .n], pg21, fg21⟩), (25, ⟨[.list (.arr 6 (.int .i64)), .list (.arr 6 (.int .i64))], [.v, .v], [.bool], [.n], pg25, fg25⟩), (15, ⟨[.list (.st [.int .i64, .int .i64, .int .i64]), .arr 6 (.int .i64)], [.v, .v], [.arr 6 (.int .i64)], [.n], pg15, fg15⟩), (16, ⟨[.list (.st [.int .i64, .int .i64, .int .i64]), .arr 6 (.int .i64)], [.v, .v], [.bool, .int .i64], [.n, .n], pg16, fg16⟩), (26, ⟨[.list (.arr 6 (.int .i64)), .arr 6 (.int .i64)], [.v, .v], [.bool], [.n], pg26, fg26⟩), (27, ⟨[.list (.st [.int .i64, .int .i64, .int .i64])], [.v], [.arr 6 (.int .i64)], [.n], pg27, fg27⟩)] := (specsOk_cons Try.func13 (by kernel_rfl) (by kernel_rfl) hs13 (specsOk_cons Try.func21 (by kernel_rfl) (by kernel_rfl) hs21 (specsOk_cons Try.func25 (by kernel_rfl) (by kernel_rfl) hs25 (specsOk_cons Try.func15 (by kernel_rfl) (by kernel_rfl) hs15 (specsOk_cons Try.func16 (by kernel_rfl) (by kernel_rfl) hs16 (specsOk_cons Try.func26 (by kernel_rfl) (by kernel_rfl) hs26 (specsOk_cons Try.func27 (by kernel_rfl) (by kernel_rfl) hs27 specsOk_nil)))))))
  refine runs_of_o tabOk Try.func7 rfl (Nat.le_of_ble_eq_true rfl) rfl ?_
  rintro E ⟨(t0_1 : List ((Int × Int × Int × Unit))), (t1_2 : List Int), ⟨⟩⟩ y hP H hw
  obtain ⟨z, H1, rfl⟩ := map_out H
  replace H : CutSteps t0_1 t1_2 = some z := H1
  clear hw H1
  unfold CutSteps at H
  refine tr_keep [0, 1] (σ' := mkSl 104 0 [(0, .val (.list (.st [.int .i64, .int .i64, .int .i64])) .n t0_1), (1, .val (.arr 6 (.int .i64)) .n t1_2)]) rfl ?_
  refine tr_seq ?_
  refine tr_rg hP tabOk hsp fun A hA M hM => ?_
  cbv
  refine hM _ ?_
  refine tr_seq ?_
  refine tr_seq ?_
  refine tr_keep [0, 3] (σ' := mkSl 104 0 [(0, .val (.list (.st [.int .i64, .int .i64, .int .i64])) .n t0_1), (3, .val (.box (.arr 6 (.int .i64))) (.b .n) t1_2)]) (by subst hA; rfl) ?_
  clear hM hA M A
  refine tr_rg hP tabOk hsp fun A hA M hM => ?_
  cbv
  obtain ⟨r_3, hr1, H⟩ := bind_out H
  obtain ⟨pq1, eq1⟩ := hc13 hr1
  obtain ⟨r_4, hr2, H⟩ := bind_out H
  obtain ⟨pq2, eq2⟩ := hc21 hr2
  refine ⟨by subst hA; subst eq1; exact pq1, by subst hA; subst eq1; subst eq2; exact pq2, hM _ ?_⟩
  refine tr_seq ?_
  refine tr_keep [0, 3, 5, 6] (σ' := mkSl 104 0 [(0, .val (.list (.st [.int .i64, .int .i64, .int .i64])) .n t0_1), (3, .val (.box (.arr 6 (.int .i64))) (.b .n) t1_2), (5, .val (.list (.arr 6 (.int .i64))) (.l .n) r_4.1), (6, .val (.int .i64) .n r_4.2)]) (by subst hA; subst eq1; subst eq2; rfl) ?_
  clear pq2 eq2 hr2 pq1 eq1 hr1 hM hA M A
  refine tr_rg hP tabOk hsp fun A hA M hM => ?_
  cbv
  obtain ⟨r_5, er1, H⟩ := letO_out H
  obtain ⟨ob1, H⟩ := ck_out H
  have eq1 := er1.trans hd25
  refine ⟨by subst hA; subst eq1; exact fun h0 => hi25 (ob1 h0), hM _ ?_⟩
  refine tr_keep [0, 3, 29] (σ' := mkSl 104 0 [(0, .val (.list (.st [.int .i64, .int .i64, .int .i64])) .n t0_1), (3, .val (.box (.arr 6 (.int .i64))) (.b .n) t1_2), (29, .val (.bool) .n ((r_4.2 != (0 : Int)) || (!r_5)))]) (by subst hA; subst eq1; rfl) ?_
  clear ob1 eq1 er1 hM hA M A
  refine tr_cond rfl (fun hc => ?_) (fun hc => ?_)
  · replace H := if_t H hc
    refine tr_keep [0, 3] (σ' := mkSl 104 0 [(0, .val (.list (.st [.int .i64, .int .i64, .int .i64])) .n t0_1), (3, .val (.box (.arr 6 (.int .i64))) (.b .n) t1_2)]) rfl ?_
    refine tr_seq ?_
    refine tr_rg hP tabOk hsp fun A hA M hM => ?_
    cbv
    refine hM _ ?_
    refine tr_ret ?_
    have hr := Option.some.inj H
    subst hr
    subst hA
    exact rfl
  · replace H := if_f H hc
    refine tr_keep [0, 3] (σ' := mkSl 104 0 [(0, .val (.list (.st [.int .i64, .int .i64, .int .i64])) .n t0_1), (3, .val (.box (.arr 6 (.int .i64))) (.b .n) t1_2)]) rfl ?_
    refine tr_skip ?_
    refine tr_seq ?_
    refine tr_rg hP tabOk hsp fun A hA M hM => ?_
    cbv
    obtain ⟨r_6, hr1, H⟩ := bind_out H
    obtain ⟨pq1, eq1⟩ := hc21 hr1
    refine ⟨by subst hA; subst eq1; exact pq1, hM _ ?_⟩
    refine tr_seq ?_
    refine tr_seq ?_
    refine tr_keep [0, 3, 7, 8] (σ' := mkSl 104 0 [(0, .val (.list (.st [.int .i64, .int .i64, .int .i64])) .n t0_1), (3, .val (.box (.arr 6 (.int .i64))) (.b .n) t1_2), (7, .val (.list (.arr 6 (.int .i64))) (.l .n) r_6.1), (8, .val (.int .i64) .n r_6.2)]) (by subst hA; subst eq1; rfl) ?_
    clear pq1 eq1 hr1 hM hA M A
    refine tr_rg hP tabOk hsp fun A hA M hM => ?_
    cbv
    refine hM _ ?_
    refine tr_keep [0, 3, 7, 36] (σ' := mkSl 104 0 [(0, .val (.list (.st [.int .i64, .int .i64, .int .i64])) .n t0_1), (3, .val (.box (.arr 6 (.int .i64))) (.b .n) t1_2), (7, .val (.list (.arr 6 (.int .i64))) (.l .n) r_6.1), (36, .val (.bool) .n (r_6.2 != (0 : Int)))]) (by subst hA; rfl) ?_
    clear hM hA M A
    refine tr_cond rfl (fun hc => ?_) (fun hc => ?_)
    · replace H := if_t H hc
      refine tr_keep [0, 3, 7] (σ' := mkSl 104 0 [(0, .val (.list (.st [.int .i64, .int .i64, .int .i64])) .n t0_1), (3, .val (.box (.arr 6 (.int .i64))) (.b .n) t1_2), (7, .val (.list (.arr 6 (.int .i64))) (.l .n) r_6.1)]) rfl ?_
      refine tr_seq ?_
      refine tr_rg hP tabOk hsp fun A hA M hM => ?_
      cbv
      refine hM _ ?_
      refine tr_ret ?_
      have hr := Option.some.inj H
      subst hr
      subst hA
      exact rfl
    · replace H := if_f H hc
      refine tr_keep [0, 3, 7] (σ' := mkSl 104 0 [(0, .val (.list (.st [.int .i64, .int .i64, .int .i64])) .n t0_1), (3, .val (.box (.arr 6 (.int .i64))) (.b .n) t1_2), (7, .val (.list (.arr 6 (.int .i64))) (.l .n) r_6.1)]) rfl ?_
      refine tr_skip ?_
      refine tr_seq ?_
      refine tr_rg hP tabOk hsp fun A hA M hM => ?_
      cbv
      obtain ⟨r_7, hr1, H⟩ := bind_out H
      obtain ⟨pq1, eq1⟩ := hc15 hr1
      refine ⟨by subst hA; subst eq1; exact pq1, hM _ ?_⟩
      refine tr_seq ?_
      refine tr_keep [0, 3, 7] (σ' := mkSl 104 0 [(0, .val (.list (.st [.int .i64, .int .i64, .int .i64])) .n t0_1), (3, .val (.box (.arr 6 (.int .i64))) (.b .n) r_7), (7, .val (.list (.arr 6 (.int .i64))) (.l .n) r_6.1)]) (by subst hA; subst eq1; rfl) ?_
      clear pq1 eq1 hr1 hM hA M A
      refine tr_rg hP tabOk hsp fun A hA M hM => ?_
      cbv
      obtain ⟨r_8, hr1, H⟩ := bind_out H
      obtain ⟨pq1, eq1⟩ := hc16 hr1
      refine ⟨by subst hA; subst eq1; exact pq1, hM _ ?_⟩
      refine tr_seq ?_
      refine tr_seq ?_
      refine tr_keep [0, 3, 7, 9, 10] (σ' := mkSl 104 0 [(0, .val (.list (.st [.int .i64, .int .i64, .int .i64])) .n t0_1), (3, .val (.box (.arr 6 (.int .i64))) (.b .n) r_7), (7, .val (.list (.arr 6 (.int .i64))) (.l .n) r_6.1), (9, .val (.bool) .n r_8.1), (10, .val (.int .i64) .n r_8.2)]) (by subst hA; subst eq1; rfl) ?_
      clear pq1 eq1 hr1 hM hA M A
      refine tr_rg hP tabOk hsp fun A hA M hM => ?_
      cbv
      obtain ⟨r_9, er1, H⟩ := letO_out H
      obtain ⟨ob1, H⟩ := ck_out H
      have eq1 := er1.trans hd26
      refine ⟨by subst hA; subst eq1; exact fun h0 => hi26 (ob1 h0), hM _ ?_⟩
      refine tr_keep [0, 3, 7, 9, 57] (σ' := mkSl 104 0 [(0, .val (.list (.st [.int .i64, .int .i64, .int .i64])) .n t0_1), (3, .val (.box (.arr 6 (.int .i64))) (.b .n) r_7), (7, .val (.list (.arr 6 (.int .i64))) (.l .n) r_6.1), (9, .val (.bool) .n r_8.1), (57, .val (.bool) .n ((r_8.2 != (0 : Int)) || (!(eqB r_8.1 r_9))))]) (by subst hA; subst eq1; rfl) ?_
      clear ob1 eq1 er1 hM hA M A
      refine tr_cond rfl (fun hc => ?_) (fun hc => ?_)
      · replace H := if_t H hc
        refine tr_keep [0, 3, 7, 9] (σ' := mkSl 104 0 [(0, .val (.list (.st [.int .i64, .int .i64, .int .i64])) .n t0_1), (3, .val (.box (.arr 6 (.int .i64))) (.b .n) r_7), (7, .val (.list (.arr 6 (.int .i64))) (.l .n) r_6.1), (9, .val (.bool) .n r_8.1)]) rfl ?_
        refine tr_seq ?_
        refine tr_rg hP tabOk hsp fun A hA M hM => ?_
        cbv
        refine hM _ ?_
        refine tr_ret ?_
        have hr := Option.some.inj H
        subst hr
        subst hA
        exact rfl
      · replace H := if_f H hc
        refine tr_keep [0, 3, 7, 9] (σ' := mkSl 104 0 [(0, .val (.list (.st [.int .i64, .int .i64, .int .i64])) .n t0_1), (3, .val (.box (.arr 6 (.int .i64))) (.b .n) r_7), (7, .val (.list (.arr 6 (.int .i64))) (.l .n) r_6.1), (9, .val (.bool) .n r_8.1)]) rfl ?_
        refine tr_skip ?_
        refine tr_seq ?_
        refine tr_seq ?_
        refine tr_rg hP tabOk hsp fun A hA M hM => ?_
        cbv
        obtain ⟨r_10, er1, H⟩ := letO_out H
        obtain ⟨ob1, H⟩ := ck_out H
        have eq1 := er1.trans hd27
        refine ⟨by subst hA; subst eq1; exact fun h0 => hi27 (ob1 h0), hM _ ?_⟩
        refine tr_keep [0, 3, 7, 64] (σ' := mkSl 104 0 [(0, .val (.list (.st [.int .i64, .int .i64, .int .i64])) .n t0_1), (3, .val (.box (.arr 6 (.int .i64))) (.b .n) r_7), (7, .val (.list (.arr 6 (.int .i64))) (.l .n) r_6.1), (64, .val (.bool) .n (r_8.1 && (!(eqA6I r_7 r_10))))]) (by subst hA; subst eq1; rfl) ?_
        clear ob1 eq1 er1 hM hA M A
        refine tr_join (z := z) (fun y : Unit => CutSteps_J1 t0_1 r_6) (fun y : Unit => mkSl 104 0 [(0, .val (.list (.st [.int .i64, .int .i64, .int .i64])) .n t0_1), (7, .val (.list (.arr 6 (.int .i64))) (.l .n) r_6.1)]) [0, 7] (fun _ h => h) (fun y H => ?_) (fun hJ1 => ?_)
        · replace H : CutSteps_J1 t0_1 r_6 = some z := H
          unfold CutSteps_J1 at H
          refine tr_seq ?_
          refine tr_rg hP tabOk hsp fun A hA M hM => ?_
          cbv
          obtain ⟨ob1, H⟩ := ck_out H
          obtain ⟨ob2, H⟩ := ck_out H
          obtain ⟨r_11, er3, H⟩ := letO_out H
          obtain ⟨ob3, H⟩ := ck_out H
          have eq3 := er3.trans hd27
          refine ⟨by subst hA; exact ob1, by subst hA; exact ob2, by subst hA; subst eq3; exact fun h0 => hi27 (ob3 h0), hM _ ?_⟩
          refine tr_ret ?_
          have hr := Option.some.inj H
          subst hr
          subst hA
          subst eq3
          exact rfl
        · refine tr_cond rfl (fun hc => ?_) (fun hc => ?_)
          · replace H := if_t H hc
            refine tr_keep [0, 3, 7] (σ' := mkSl 104 0 [(0, .val (.list (.st [.int .i64, .int .i64, .int .i64])) .n t0_1), (3, .val (.box (.arr 6 (.int .i64))) (.b .n) r_7), (7, .val (.list (.arr 6 (.int .i64))) (.l .n) r_6.1)]) rfl ?_
            refine tr_seq ?_
            refine tr_rg hP tabOk hsp fun A hA M hM => ?_
            cbv
            refine hM _ ?_
            refine tr_seq ?_
            refine tr_seq ?_
            refine tr_keep [0, 3, 7, 11] (σ' := mkSl 104 0 [(0, .val (.list (.st [.int .i64, .int .i64, .int .i64])) .n t0_1), (3, .val (.box (.arr 6 (.int .i64))) (.b .n) r_7), (7, .val (.list (.arr 6 (.int .i64))) (.l .n) r_6.1), (11, .val (.bool) .n false)]) (by subst hA; rfl) ?_
            clear hM hA M A
            refine tr_rg hP tabOk hsp fun A hA M hM => ?_
            cbv
            refine hM _ ?_
            refine tr_block ?_
            refine tr_keep [0, 3, 7, 11, 65] (σ' := mkSl 104 0 [(0, .val (.list (.st [.int .i64, .int .i64, .int .i64])) .n t0_1), (3, .val (.box (.arr 6 (.int .i64))) (.b .n) r_7), (7, .val (.list (.arr 6 (.int .i64))) (.l .n) r_6.1), (11, .val (.bool) .n false), (65, .val (.int .i64) .n (0 : Int))]) (by subst hA; rfl) ?_
            clear hM hA M A
            obtain ⟨q_15, hq, H⟩ := bind_out H
            refine tr_loopB 0 (fun x : Bool × Int => CutSteps_L2 r_6 r_7 x.1 x.2) (fun x : Bool × Int => mkSl 104 0 [(0, .val (.list (.st [.int .i64, .int .i64, .int .i64])) .n t0_1), (3, .val (.box (.arr 6 (.int .i64))) (.b .n) r_7), (7, .val (.list (.arr 6 (.int .i64))) (.l .n) r_6.1), (11, .val (.bool) .n x.1), (65, .val (.int .i64) .n x.2)]) [0, 3, 7, 11, 65] (fun q_15 : Bool => mkSl 104 0 [(0, .val (.list (.st [.int .i64, .int .i64, .int .i64])) .n t0_1), (7, .val (.list (.arr 6 (.int .i64))) (.l .n) r_6.1), (11, .val (.bool) .n q_15)]) [0, 7, 11] hq rfl (fun σ' h => ?_) (fun x r2 H => ?_)
            · refine tr_keep [0, 7, 11] h ?_
              refine tr_seq ?_
              refine tr_rg hP tabOk hsp fun A hA M hM => ?_
              cbv
              refine hM _ ?_
              refine tr_keep [0, 7, 82] (σ' := mkSl 104 0 [(0, .val (.list (.st [.int .i64, .int .i64, .int .i64])) .n t0_1), (7, .val (.list (.arr 6 (.int .i64))) (.l .n) r_6.1), (82, .val (.bool) .n (!q_15))]) (by subst hA; rfl) ?_
              clear hM hA M A
              refine tr_cond rfl (fun hc => ?_) (fun hc => ?_)
              · replace H := if_t H hc
                refine tr_keep [0, 7] (σ' := mkSl 104 0 [(0, .val (.list (.st [.int .i64, .int .i64, .int .i64])) .n t0_1), (7, .val (.list (.arr 6 (.int .i64))) (.l .n) r_6.1)]) rfl ?_
                refine tr_seq ?_
                refine tr_rg hP tabOk hsp fun A hA M hM => ?_
                cbv
                refine hM _ ?_
                refine tr_ret ?_
                have hr := Option.some.inj H
                subst hr
                subst hA
                exact rfl
              · replace H := if_f H hc
                refine tr_keep [0, 7] (σ' := mkSl 104 0 [(0, .val (.list (.st [.int .i64, .int .i64, .int .i64])) .n t0_1), (7, .val (.list (.arr 6 (.int .i64))) (.l .n) r_6.1)]) rfl ?_
                refine tr_skip ?_
                exact hJ1 () _ H (by rfl)
            · obtain ⟨t11_12, t65_13⟩ := x
              replace H : CutSteps_L2 r_6 r_7 t11_12 t65_13 = some r2 := H
              unfold CutSteps_L2 at H
              refine tr_seq ?_
              refine tr_rg hP tabOk hsp fun A hA M hM => ?_
              cbv
              refine hM _ ?_
              refine tr_seq ?_
              refine tr_keep [0, 3, 7, 11, 65, 66] (σ' := mkSl 104 0 [(0, .val (.list (.st [.int .i64, .int .i64, .int .i64])) .n t0_1), (3, .val (.box (.arr 6 (.int .i64))) (.b .n) r_7), (7, .val (.list (.arr 6 (.int .i64))) (.l .n) r_6.1), (11, .val (.bool) .n t11_12), (65, .val (.int .i64) .n t65_13), (66, .val (.bool) .n (decide (t65_13 < (6 : Int))))]) (by subst hA; rfl) ?_
              clear hM hA M A
              refine tr_cond rfl (fun hc => ?_) (fun hc => ?_)
              · replace H := if_t H hc
                refine tr_keep [0, 3, 7, 11, 65] (σ' := mkSl 104 0 [(0, .val (.list (.st [.int .i64, .int .i64, .int .i64])) .n t0_1), (3, .val (.box (.arr 6 (.int .i64))) (.b .n) r_7), (7, .val (.list (.arr 6 (.int .i64))) (.l .n) r_6.1), (11, .val (.bool) .n t11_12), (65, .val (.int .i64) .n t65_13)]) rfl ?_
                refine tr_skip ?_
                refine tr_seq ?_
                refine tr_block ?_
                refine tr_seq ?_
                refine tr_rg hP tabOk hsp fun A hA M hM => ?_
                cbv
                refine hM _ ?_
                refine tr_seq ?_
                refine tr_keep [0, 3, 7, 11, 12, 65] (σ' := mkSl 104 0 [(0, .val (.list (.st [.int .i64, .int .i64, .int .i64])) .n t0_1), (3, .val (.box (.arr 6 (.int .i64))) (.b .n) r_7), (7, .val (.list (.arr 6 (.int .i64))) (.l .n) r_6.1), (11, .val (.bool) .n t11_12), (12, .val (.int .i64) .n t65_13), (65, .val (.int .i64) .n t65_13)]) (by subst hA; rfl) ?_
                clear hM hA M A
                refine tr_rg hP tabOk hsp fun A hA M hM => ?_
                cbv
                refine hM _ ?_
                refine tr_seq ?_
                refine tr_keep [0, 3, 7, 11, 12, 13, 65] (σ' := mkSl 104 0 [(0, .val (.list (.st [.int .i64, .int .i64, .int .i64])) .n t0_1), (3, .val (.box (.arr 6 (.int .i64))) (.b .n) r_7), (7, .val (.list (.arr 6 (.int .i64))) (.l .n) r_6.1), (11, .val (.bool) .n t11_12), (12, .val (.int .i64) .n t65_13), (13, .val (.box (.arr 6 (.int .i64))) (.b .n) r_7), (65, .val (.int .i64) .n t65_13)]) (by subst hA; rfl) ?_
                clear hM hA M A
                refine tr_rg hP tabOk hsp fun A hA M hM => ?_
                cbv
                obtain ⟨ob1, H⟩ := ck_out H
                obtain ⟨ob2, H⟩ := ck_out H
                refine ⟨by subst hA; exact ob1, by subst hA; exact ob2, hM _ ?_⟩
                refine tr_keepL [0, 3, 7, 11, 13, 65] (fun t13_16 : List Int => mkSl 104 0 [(0, .val (.list (.st [.int .i64, .int .i64, .int .i64])) .n t0_1), (3, .val (.box (.arr 6 (.int .i64))) (.b .n) r_7), (7, .val (.list (.arr 6 (.int .i64))) (.l .n) r_6.1), (11, .val (.bool) .n t11_12), (13, .val (.box (.arr 6 (.int .i64))) (.b .n) t13_16), (65, .val (.int .i64) .n t65_13)]) H (by subst hA; rfl) (fun t13_16 H => ?_)
                clear ob2 ob1 hM hA M A
                refine tr_rg hP tabOk hsp fun A hA M hM => ?_
                cbv
                obtain ⟨r_17, er1, H⟩ := letO_out H
                obtain ⟨ob1, H⟩ := ck_out H
                have eq1 := er1.trans hd26
                refine ⟨by subst hA; subst eq1; exact fun h0 => hi26 (ob1 h0), hM _ ?_⟩
                refine tr_keepL [0, 3, 7, 11, 65] (fun t11_18 : Bool => mkSl 104 0 [(0, .val (.list (.st [.int .i64, .int .i64, .int .i64])) .n t0_1), (3, .val (.box (.arr 6 (.int .i64))) (.b .n) r_7), (7, .val (.list (.arr 6 (.int .i64))) (.l .n) r_6.1), (11, .val (.bool) .n t11_18), (65, .val (.int .i64) .n t65_13)]) H (by subst hA; subst eq1; rfl) (fun t11_18 H => ?_)
                clear ob1 eq1 er1 hM hA M A
                refine tr_rg hP tabOk hsp fun A hA M hM => ?_
                cbv
                refine hM _ ?_
                exact Exists.intro _ (And.intro (Option.some.inj H).symm (by subst hA; rfl))
              · replace H := if_f H hc
                refine tr_keep [0, 3, 7, 11, 65] (σ' := mkSl 104 0 [(0, .val (.list (.st [.int .i64, .int .i64, .int .i64])) .n t0_1), (3, .val (.box (.arr 6 (.int .i64))) (.b .n) r_7), (7, .val (.list (.arr 6 (.int .i64))) (.l .n) r_6.1), (11, .val (.bool) .n t11_12), (65, .val (.int .i64) .n t65_13)]) rfl ?_
                refine tr_exit ?_
                exact And.intro rfl (Exists.intro _ (And.intro (Option.some.inj H).symm (by rfl)))
          · replace H := if_f H hc
            refine tr_keep [0, 3, 7] (σ' := mkSl 104 0 [(0, .val (.list (.st [.int .i64, .int .i64, .int .i64])) .n t0_1), (3, .val (.box (.arr 6 (.int .i64))) (.b .n) r_7), (7, .val (.list (.arr 6 (.int .i64))) (.l .n) r_6.1)]) rfl ?_
            refine tr_skip ?_
            exact hJ1 () _ H (by rfl)
theorem CutSteps_sp : ∃ (pg : PT.denL [.list (.st [.int .i64, .int .i64, .int .i64]), .arr 6 (.int .i64)] → Prop) (fg : PT.denL [.list (.st [.int .i64, .int .i64, .int .i64]), .arr 6 (.int .i64)] → PT.denL [.bool]), SpecRuns Try.prog 7 ⟨[.list (.st [.int .i64, .int .i64, .int .i64]), .arr 6 (.int .i64)], [.v, .v], [.bool], [.n], pg, fg⟩ ∧ (∀ {a1 : List ((Int × Int × Int × Unit))} {a2 : List Int} {y : Bool}, CutSteps a1 a2 = some y → pg (a1, a2, ()) ∧ y = (fg (a1, a2, ())).1) ∧ (∀ {a1 : List ((Int × Int × Int × Unit))} {a2 : List Int}, (CutSteps a1 a2).isSome = true → pg (a1, a2, ())) ∧ ∀ {a1 : List ((Int × Int × Int × Unit))} {a2 : List Int}, (CutSteps a1 a2).getD false = (fg (a1, a2, ())).1 := by
  obtain ⟨pg, fg, h, hc, hi, hd⟩ := spec_hide CutSteps_runs
  refine ⟨pg, fg, h, ?_, ?_, ?_⟩
  · intro a1 a2 y e
    obtain ⟨h1, h2⟩ := hc (a1, a2, ()) (y, ()) (congrArg (Option.map fun r => (r, ())) e)
    exact ⟨h1, by first | (rw [h2]; done) | (rw [h2]; rfl)⟩
  · intro a1 a2
    intro e
    exact hi (a1, a2, ()) (map_isSome e)
  · intro a1 a2
    rw [hd (a1, a2, ())]
    cases CutSteps a1 a2 <;> rfl
end Go.Proofs.Ytdahfpfkjljojaa.Ct
