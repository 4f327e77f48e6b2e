/- Functions of the program as functions that may fail, and that the code computes them (printed). Each theorem bears its conditions itself. -/
import Derived.Test.YtdahfpfkjljojaaCtDefs
import Derived.Test.YtdahfpfkjljojaaCtTab
import Derived.Test.YtdahfpfkjljojaaCtQpredQCheck
import Derived.Test.YtdahfpfkjljojaaCtQcutQGrow
import Derived.Test.YtdahfpfkjljojaaCtQpredQholds
open Go Go.Proofs.Ytdahfpfkjljojaa.Sy Go.Proofs
set_option maxHeartbeats 4000000
set_option maxRecDepth 100000
set_option cbv.maxSteps 10000000
set_option linter.unusedVariables false
set_option linter.unusedSimpArgs false
namespace Go.Proofs.Ytdahfpfkjljojaa.Ct
theorem pred_First_runs : SpecRuns Try.prog 28 (oSpec [.list (.st [.int .i64, .int .i64, .int .i64]), .list (.list (.bool))] [.v, .v] [.arr 6 (.int .i64), .int .i64] [.n, .n] fun x => (pred_First x.1 x.2.1).map fun r => (r.1, r.2, ())) := by
  obtain ⟨pg40, fg40, hs40, hc40, hi40, hd40⟩ := pred_Check_sp
  obtain ⟨pg12, fg12, hs12, hc12, hi12, hd12⟩ := cut_Grow_sp
  obtain ⟨pg41, fg41, hs41, hc41, hi41, hd41⟩ := pred_holds_sp
  have hsp : SpecsOk Try.prog [(40, ⟨[.list (.st [.int .i64, .int .i64, .int .i64]), .list (.list (.bool))], [.v, .v], [.int .i64], [.n], pg40, fg40⟩), (12, ⟨[.list (.st [.int .i64, .int .i64, .int .i64]), .arr 6 (.int .i64)], [.v, .v], [.arr 6 (.int .i64), .int .i64], [.n, .n], pg12, fg12⟩), (41, ⟨[.list (.list (.bool)), .arr 6 (.int .i64)], [.v, .v], [.bool], [.n], pg41, fg41⟩)] := (specsOk_cons Try.func40 (by kernel_rfl) (by kernel_rfl) hs40 (specsOk_cons Try.func12 (by kernel_rfl) (by kernel_rfl) hs12 (specsOk_cons Try.func41 (by kernel_rfl) (by kernel_rfl) hs41 specsOk_nil)))
  refine runs_of_o tabOk Try.func28 rfl (Nat.le_of_ble_eq_true rfl) rfl ?_
  rintro E ⟨(t0_1 : List ((Int × Int × Int × Unit))), (t1_2 : List (List Bool)), ⟨⟩⟩ y hP H hw
  obtain ⟨z, H1, rfl⟩ := map_out H
  replace H : pred_First t0_1 t1_2 = some z := H1
  clear hw H1
  unfold pred_First at H
  refine tr_keep [0, 1] (σ' := mkSl 68 0 [(0, .val (.list (.st [.int .i64, .int .i64, .int .i64])) .n t0_1), (1, .val (.list (.list (.bool))) .n t1_2)]) rfl ?_
  refine tr_seq ?_
  refine tr_rg hP tabOk hsp fun A hA M hM => ?_
  cbv
  refine hM _ ?_
  refine tr_seq ?_
  refine tr_seq ?_
  refine tr_keepL [0, 1, 4] (fun t4_3 : List Int => mkSl 68 0 [(0, .val (.list (.st [.int .i64, .int .i64, .int .i64])) .n t0_1), (1, .val (.list (.list (.bool))) .n t1_2), (4, .val (.box (.arr 6 (.int .i64))) (.b .n) t4_3)]) H (by subst hA; rfl) (fun t4_3 H => ?_)
  clear hM hA M A
  refine tr_rg hP tabOk hsp fun A hA M hM => ?_
  cbv
  obtain ⟨r_4, hr1, H⟩ := bind_out H
  obtain ⟨pq1, eq1⟩ := hc40 hr1
  refine ⟨by subst hA; subst eq1; exact pq1, hM _ ?_⟩
  refine tr_seq ?_
  refine tr_keep [0, 1, 4, 6] (σ' := mkSl 68 0 [(0, .val (.list (.st [.int .i64, .int .i64, .int .i64])) .n t0_1), (1, .val (.list (.list (.bool))) .n t1_2), (4, .val (.box (.arr 6 (.int .i64))) (.b .n) t4_3), (6, .val (.int .i64) .n r_4)]) (by subst hA; subst eq1; rfl) ?_
  clear pq1 eq1 hr1 hM hA M A
  refine tr_rg hP tabOk hsp fun A hA M hM => ?_
  cbv
  refine hM _ ?_
  refine tr_keep [0, 1, 4, 6, 15] (σ' := mkSl 68 0 [(0, .val (.list (.st [.int .i64, .int .i64, .int .i64])) .n t0_1), (1, .val (.list (.list (.bool))) .n t1_2), (4, .val (.box (.arr 6 (.int .i64))) (.b .n) t4_3), (6, .val (.int .i64) .n r_4), (15, .val (.bool) .n (r_4 != (0 : Int)))]) (by subst hA; rfl) ?_
  clear hM hA M A
  refine tr_cond rfl (fun hc => ?_) (fun hc => ?_)
  · replace H := if_t H hc
    refine tr_keep [0, 1, 4, 6] (σ' := mkSl 68 0 [(0, .val (.list (.st [.int .i64, .int .i64, .int .i64])) .n t0_1), (1, .val (.list (.list (.bool))) .n t1_2), (4, .val (.box (.arr 6 (.int .i64))) (.b .n) t4_3), (6, .val (.int .i64) .n r_4)]) rfl ?_
    refine tr_seq ?_
    refine tr_rg hP tabOk hsp fun A hA M hM => ?_
    cbv
    refine hM _ ?_
    refine tr_ret ?_
    have hr := Option.some.inj H
    subst hr
    subst hA
    exact rfl
  · replace H := if_f H hc
    refine tr_keep [0, 1, 4, 6] (σ' := mkSl 68 0 [(0, .val (.list (.st [.int .i64, .int .i64, .int .i64])) .n t0_1), (1, .val (.list (.list (.bool))) .n t1_2), (4, .val (.box (.arr 6 (.int .i64))) (.b .n) t4_3), (6, .val (.int .i64) .n r_4)]) rfl ?_
    refine tr_skip ?_
    refine tr_seq ?_
    refine tr_rg hP tabOk hsp fun A hA M hM => ?_
    cbv
    refine hM _ ?_
    refine tr_block ?_
    refine tr_keepL [0, 1, 4, 7] (fun t7_5 : List Int => mkSl 68 0 [(0, .val (.list (.st [.int .i64, .int .i64, .int .i64])) .n t0_1), (1, .val (.list (.list (.bool))) .n t1_2), (4, .val (.box (.arr 6 (.int .i64))) (.b .n) t4_3), (7, .val (.box (.arr 6 (.int .i64))) (.b .n) t7_5)]) H (by subst hA; rfl) (fun t7_5 H => ?_)
    clear hM hA M A
    refine tr_loopR (fun x : List Int => pred_First_L1 t0_1 t1_2 x) (fun x : List Int => mkSl 68 0 [(0, .val (.list (.st [.int .i64, .int .i64, .int .i64])) .n t0_1), (1, .val (.list (.list (.bool))) .n t1_2), (4, .val (.box (.arr 6 (.int .i64))) (.b .n) t4_3), (7, .val (.box (.arr 6 (.int .i64))) (.b .n) x)]) [0, 1, 4, 7] H rfl (fun x r1 H => ?_)
    obtain ⟨t7_6, rfl⟩ : ∃ v, v = x := ⟨x, rfl⟩
    replace H : pred_First_L1 t0_1 t1_2 t7_6 = some r1 := H
    unfold pred_First_L1 at H
    refine tr_block ?_
    refine tr_seq ?_
    refine tr_rg hP tabOk hsp fun A hA M hM => ?_
    cbv
    refine hM _ ?_
    refine tr_seq ?_
    refine tr_seq ?_
    refine tr_keep [0, 1, 4, 7, 8] (σ' := mkSl 68 0 [(0, .val (.list (.st [.int .i64, .int .i64, .int .i64])) .n t0_1), (1, .val (.list (.list (.bool))) .n t1_2), (4, .val (.box (.arr 6 (.int .i64))) (.b .n) t4_3), (7, .val (.box (.arr 6 (.int .i64))) (.b .n) t7_6), (8, .val (.box (.arr 6 (.int .i64))) (.b .n) t7_6)]) (by subst hA; rfl) ?_
    clear hM hA M A
    refine tr_rg hP tabOk hsp fun A hA M hM => ?_
    cbv
    refine hM _ ?_
    refine tr_block ?_
    refine tr_keepL [0, 1, 4, 7, 8, 19, 20, 21] (fun t20_7 : Int => mkSl 68 0 [(0, .val (.list (.st [.int .i64, .int .i64, .int .i64])) .n t0_1), (1, .val (.list (.list (.bool))) .n t1_2), (4, .val (.box (.arr 6 (.int .i64))) (.b .n) t4_3), (7, .val (.box (.arr 6 (.int .i64))) (.b .n) t7_6), (8, .val (.box (.arr 6 (.int .i64))) (.b .n) t7_6), (19, .val (.list (.list (.bool))) .n t1_2), (20, .val (.int .i64) .n t20_7), (21, .val (.int .i64) .n (0 : Int))]) H (by subst hA; rfl) (fun t20_7 H => ?_)
    clear hM hA M A
    obtain ⟨q, hq, Hl, Hr⟩ := bindE_out H
    refine tr_loopE 2 (fun x : List Int × Int => pred_First_L2 t1_2 t20_7 x.1 x.2) (fun x : List Int × Int => mkSl 68 0 [(0, .val (.list (.st [.int .i64, .int .i64, .int .i64])) .n t0_1), (1, .val (.list (.list (.bool))) .n t1_2), (4, .val (.box (.arr 6 (.int .i64))) (.b .n) t4_3), (7, .val (.box (.arr 6 (.int .i64))) (.b .n) t7_6), (8, .val (.box (.arr 6 (.int .i64))) (.b .n) x.1), (19, .val (.list (.list (.bool))) .n t1_2), (20, .val (.int .i64) .n t20_7), (21, .val (.int .i64) .n x.2)]) [0, 1, 4, 7, 8, 19, 20, 21] (fun q_11 : List Int => mkSl 68 0 [(0, .val (.list (.st [.int .i64, .int .i64, .int .i64])) .n t0_1), (1, .val (.list (.list (.bool))) .n t1_2), (4, .val (.box (.arr 6 (.int .i64))) (.b .n) t4_3), (7, .val (.box (.arr 6 (.int .i64))) (.b .n) t7_6), (8, .val (.box (.arr 6 (.int .i64))) (.b .n) q_11)]) [0, 1, 4, 7, 8] hq rfl Hr (fun q_11 hl σ' h => ?_) (fun x r2 H => ?_)
    · replace H := Hl q_11 hl
      refine tr_keep [0, 1, 4, 7, 8] h ?_
      refine tr_seq ?_
      refine tr_seq ?_
      refine tr_rg hP tabOk hsp fun A hA M hM => ?_
      cbv
      obtain ⟨r_16, hr1, H⟩ := bind_out H
      obtain ⟨pq1, eq1⟩ := hc12 hr1
      refine ⟨by subst hA; subst eq1; exact pq1, hM _ ?_⟩
      refine tr_seq ?_
      refine tr_keep [0, 1, 4, 7, 8] (σ' := mkSl 68 0 [(0, .val (.list (.st [.int .i64, .int .i64, .int .i64])) .n t0_1), (1, .val (.list (.list (.bool))) .n t1_2), (4, .val (.box (.arr 6 (.int .i64))) (.b .n) t4_3), (7, .val (.box (.arr 6 (.int .i64))) (.b .n) t7_6), (8, .val (.box (.arr 6 (.int .i64))) (.b .n) r_16.1)]) (by subst hA; subst eq1; rfl) ?_
      clear pq1 eq1 hr1 hM hA M A
      refine tr_rg hP tabOk hsp fun A hA M hM => ?_
      cbv
      refine hM _ ?_
      refine tr_keep [0, 1, 4, 7, 8, 62] (σ' := mkSl 68 0 [(0, .val (.list (.st [.int .i64, .int .i64, .int .i64])) .n t0_1), (1, .val (.list (.list (.bool))) .n t1_2), (4, .val (.box (.arr 6 (.int .i64))) (.b .n) t4_3), (7, .val (.box (.arr 6 (.int .i64))) (.b .n) t7_6), (8, .val (.box (.arr 6 (.int .i64))) (.b .n) r_16.1), (62, .val (.bool) .n (eqA6I r_16.1 t7_6))]) (by subst hA; rfl) ?_
      clear hM hA M A
      refine tr_join (z := r1) (fun y : Unit => pred_First_J4 r_16) (fun y : Unit => mkSl 68 0 [(0, .val (.list (.st [.int .i64, .int .i64, .int .i64])) .n t0_1), (1, .val (.list (.list (.bool))) .n t1_2), (4, .val (.box (.arr 6 (.int .i64))) (.b .n) t4_3), (7, .val (.box (.arr 6 (.int .i64))) (.b .n) t7_6), (8, .val (.box (.arr 6 (.int .i64))) (.b .n) r_16.1)]) [0, 1, 4, 7, 8] (fun _ h => h) (fun y H => ?_) (fun hJ4 => ?_)
      · replace H : pred_First_J4 r_16 = some r1 := H
        unfold pred_First_J4 at H
        refine tr_rg hP tabOk hsp fun A hA M hM => ?_
        cbv
        refine hM _ ?_
        exact Exists.intro _ (And.intro (Option.some.inj H).symm (by subst hA; rfl))
      · refine tr_cond rfl (fun hc => ?_) (fun hc => ?_)
        · replace H := if_t H hc
          refine tr_keep [0, 1, 4, 7, 8] (σ' := mkSl 68 0 [(0, .val (.list (.st [.int .i64, .int .i64, .int .i64])) .n t0_1), (1, .val (.list (.list (.bool))) .n t1_2), (4, .val (.box (.arr 6 (.int .i64))) (.b .n) t4_3), (7, .val (.box (.arr 6 (.int .i64))) (.b .n) t7_6), (8, .val (.box (.arr 6 (.int .i64))) (.b .n) r_16.1)]) rfl ?_
          refine tr_seq ?_
          refine tr_rg hP tabOk hsp fun A hA M hM => ?_
          cbv
          obtain ⟨r_17, hr1, H⟩ := bind_out H
          obtain ⟨pq1, eq1⟩ := hc41 hr1
          refine ⟨by subst hA; subst eq1; exact pq1, hM _ ?_⟩
          refine tr_keep [0, 1, 4, 7, 8, 65] (σ' := mkSl 68 0 [(0, .val (.list (.st [.int .i64, .int .i64, .int .i64])) .n t0_1), (1, .val (.list (.list (.bool))) .n t1_2), (4, .val (.box (.arr 6 (.int .i64))) (.b .n) t4_3), (7, .val (.box (.arr 6 (.int .i64))) (.b .n) t7_6), (8, .val (.box (.arr 6 (.int .i64))) (.b .n) r_16.1), (65, .val (.bool) .n r_17)]) (by subst hA; subst eq1; rfl) ?_
          clear pq1 eq1 hr1 hM hA M A
          refine tr_cond rfl (fun hc => ?_) (fun hc => ?_)
          · replace H := if_t H hc
            refine tr_seq ?_
            refine tr_rg hP tabOk hsp fun A hA M hM => ?_
            cbv
            refine hM _ ?_
            refine tr_ret ?_
            have hr := Option.some.inj H
            refine Exists.intro _ (And.intro hr.symm (fun hr => ?_))
            subst hr
            subst hA
            exact rfl
          · replace H := if_f H hc
            refine tr_skip ?_
            exact hJ4 () _ H (by rfl)
        · replace H := if_f H hc
          refine tr_keep [0, 1, 4, 7, 8] (σ' := mkSl 68 0 [(0, .val (.list (.st [.int .i64, .int .i64, .int .i64])) .n t0_1), (1, .val (.list (.list (.bool))) .n t1_2), (4, .val (.box (.arr 6 (.int .i64))) (.b .n) t4_3), (7, .val (.box (.arr 6 (.int .i64))) (.b .n) t7_6), (8, .val (.box (.arr 6 (.int .i64))) (.b .n) r_16.1)]) rfl ?_
          refine tr_skip ?_
          exact hJ4 () _ H (by rfl)
    · obtain ⟨t8_8, t21_9⟩ := x
      replace H : pred_First_L2 t1_2 t20_7 t8_8 t21_9 = some r2 := H
      unfold pred_First_L2 at H
      refine tr_seq ?_
      refine tr_rg hP tabOk hsp fun A hA M hM => ?_
      cbv
      refine hM _ ?_
      refine tr_seq ?_
      refine tr_keep [0, 1, 4, 7, 8, 19, 20, 21, 22] (σ' := mkSl 68 0 [(0, .val (.list (.st [.int .i64, .int .i64, .int .i64])) .n t0_1), (1, .val (.list (.list (.bool))) .n t1_2), (4, .val (.box (.arr 6 (.int .i64))) (.b .n) t4_3), (7, .val (.box (.arr 6 (.int .i64))) (.b .n) t7_6), (8, .val (.box (.arr 6 (.int .i64))) (.b .n) t8_8), (19, .val (.list (.list (.bool))) .n t1_2), (20, .val (.int .i64) .n t20_7), (21, .val (.int .i64) .n t21_9), (22, .val (.bool) .n (decide (t21_9 < t20_7)))]) (by subst hA; rfl) ?_
      clear hM hA M A
      refine tr_cond rfl (fun hc => ?_) (fun hc => ?_)
      · replace H := if_t H hc
        refine tr_keep [0, 1, 4, 7, 8, 19, 20, 21] (σ' := mkSl 68 0 [(0, .val (.list (.st [.int .i64, .int .i64, .int .i64])) .n t0_1), (1, .val (.list (.list (.bool))) .n t1_2), (4, .val (.box (.arr 6 (.int .i64))) (.b .n) t4_3), (7, .val (.box (.arr 6 (.int .i64))) (.b .n) t7_6), (8, .val (.box (.arr 6 (.int .i64))) (.b .n) t8_8), (19, .val (.list (.list (.bool))) .n t1_2), (20, .val (.int .i64) .n t20_7), (21, .val (.int .i64) .n t21_9)]) rfl ?_
        refine tr_skip ?_
        refine tr_seq ?_
        refine tr_block ?_
        refine tr_seq ?_
        refine tr_rg hP tabOk hsp fun A hA M hM => ?_
        cbv
        obtain ⟨ob1, H⟩ := ck_out H
        refine ⟨by subst hA; exact ob1, hM _ ?_⟩
        refine tr_seq ?_
        refine tr_block ?_
        refine tr_keepL [0, 1, 4, 7, 8, 9, 10, 19, 20, 21] (fun t10_12 : List Bool => mkSl 68 0 [(0, .val (.list (.st [.int .i64, .int .i64, .int .i64])) .n t0_1), (1, .val (.list (.list (.bool))) .n t1_2), (4, .val (.box (.arr 6 (.int .i64))) (.b .n) t4_3), (7, .val (.box (.arr 6 (.int .i64))) (.b .n) t7_6), (8, .val (.box (.arr 6 (.int .i64))) (.b .n) t8_8), (9, .val (.int .i64) .n t21_9), (10, .val (.list (.bool)) .n t10_12), (19, .val (.list (.list (.bool))) .n t1_2), (20, .val (.int .i64) .n t20_7), (21, .val (.int .i64) .n t21_9)]) H (by subst hA; rfl) (fun t10_12 H => ?_)
        clear ob1 hM hA M A
        obtain ⟨q_15, hq, H⟩ := bind_out H
        refine tr_loopB 4 (fun x : List Int => pred_First_L3 t21_9 t10_12 x) (fun x : List Int => mkSl 68 0 [(0, .val (.list (.st [.int .i64, .int .i64, .int .i64])) .n t0_1), (1, .val (.list (.list (.bool))) .n t1_2), (4, .val (.box (.arr 6 (.int .i64))) (.b .n) t4_3), (7, .val (.box (.arr 6 (.int .i64))) (.b .n) t7_6), (8, .val (.box (.arr 6 (.int .i64))) (.b .n) x), (9, .val (.int .i64) .n t21_9), (10, .val (.list (.bool)) .n t10_12), (19, .val (.list (.list (.bool))) .n t1_2), (20, .val (.int .i64) .n t20_7), (21, .val (.int .i64) .n t21_9)]) [0, 1, 4, 7, 8, 9, 10, 19, 20, 21] (fun q_15 : List Int => mkSl 68 0 [(0, .val (.list (.st [.int .i64, .int .i64, .int .i64])) .n t0_1), (1, .val (.list (.list (.bool))) .n t1_2), (4, .val (.box (.arr 6 (.int .i64))) (.b .n) t4_3), (7, .val (.box (.arr 6 (.int .i64))) (.b .n) t7_6), (8, .val (.box (.arr 6 (.int .i64))) (.b .n) q_15), (9, .val (.int .i64) .n t21_9), (10, .val (.list (.bool)) .n t10_12), (19, .val (.list (.list (.bool))) .n t1_2), (20, .val (.int .i64) .n t20_7), (21, .val (.int .i64) .n t21_9)]) [0, 1, 4, 7, 8, 9, 10, 19, 20, 21] hq rfl (fun σ' h => ?_) (fun x r3 H => ?_)
        · refine tr_keep [0, 1, 4, 7, 8, 9, 10, 19, 20, 21] h ?_
          refine tr_seq ?_
          refine tr_rg hP tabOk hsp fun A hA M hM => ?_
          cbv
          obtain ⟨ob1, H⟩ := ck_out H
          refine ⟨by subst hA; exact ob1, hM _ ?_⟩
          refine tr_keep [0, 1, 4, 7, 8, 10, 19, 20, 21, 51] (σ' := mkSl 68 0 [(0, .val (.list (.st [.int .i64, .int .i64, .int .i64])) .n t0_1), (1, .val (.list (.list (.bool))) .n t1_2), (4, .val (.box (.arr 6 (.int .i64))) (.b .n) t4_3), (7, .val (.box (.arr 6 (.int .i64))) (.b .n) t7_6), (8, .val (.box (.arr 6 (.int .i64))) (.b .n) q_15), (10, .val (.list (.bool)) .n t10_12), (19, .val (.list (.list (.bool))) .n t1_2), (20, .val (.int .i64) .n t20_7), (21, .val (.int .i64) .n t21_9), (51, .val (.bool) .n ((q_15.getD t21_9.toNat (0 : Int)) == (t10_12.length : Int)))]) (by subst hA; rfl) ?_
          clear ob1 hM hA M A
          refine tr_cond rfl (fun hc => ?_) (fun hc => ?_)
          · replace H := if_t H hc
            refine tr_keep [0, 1, 4, 7, 8, 10, 19, 20, 21] (σ' := mkSl 68 0 [(0, .val (.list (.st [.int .i64, .int .i64, .int .i64])) .n t0_1), (1, .val (.list (.list (.bool))) .n t1_2), (4, .val (.box (.arr 6 (.int .i64))) (.b .n) t4_3), (7, .val (.box (.arr 6 (.int .i64))) (.b .n) t7_6), (8, .val (.box (.arr 6 (.int .i64))) (.b .n) q_15), (10, .val (.list (.bool)) .n t10_12), (19, .val (.list (.list (.bool))) .n t1_2), (20, .val (.int .i64) .n t20_7), (21, .val (.int .i64) .n t21_9)]) rfl ?_
            refine tr_seq ?_
            refine tr_rg hP tabOk hsp fun A hA M hM => ?_
            cbv
            refine hM _ ?_
            refine tr_ret ?_
            have hr := Option.some.inj H
            refine Exists.intro _ (And.intro hr.symm (fun hr => ?_))
            refine Exists.intro _ (And.intro hr.symm (fun hr => ?_))
            subst hr
            subst hA
            exact rfl
          · replace H := if_f H hc
            refine tr_keep [0, 1, 4, 7, 8, 10, 19, 20, 21] (σ' := mkSl 68 0 [(0, .val (.list (.st [.int .i64, .int .i64, .int .i64])) .n t0_1), (1, .val (.list (.list (.bool))) .n t1_2), (4, .val (.box (.arr 6 (.int .i64))) (.b .n) t4_3), (7, .val (.box (.arr 6 (.int .i64))) (.b .n) t7_6), (8, .val (.box (.arr 6 (.int .i64))) (.b .n) q_15), (10, .val (.list (.bool)) .n t10_12), (19, .val (.list (.list (.bool))) .n t1_2), (20, .val (.int .i64) .n t20_7), (21, .val (.int .i64) .n t21_9)]) rfl ?_
            refine tr_skip ?_
            refine tr_rg hP tabOk hsp fun A hA M hM => ?_
            cbv
            refine hM _ ?_
            exact Exists.intro _ (And.intro (Option.some.inj H).symm (by subst hA; rfl))
        · obtain ⟨t8_13, rfl⟩ : ∃ v, v = x := ⟨x, rfl⟩
          replace H : pred_First_L3 t21_9 t10_12 t8_13 = some r3 := H
          unfold pred_First_L3 at H
          refine tr_seq ?_
          refine tr_seq ?_
          refine tr_rg hP tabOk hsp fun A hA M hM => ?_
          cbv
          obtain ⟨ob1, H⟩ := ck_out H
          obtain ⟨ob2, H⟩ := ck_out H
          obtain ⟨ob3, H⟩ := ck_out H
          refine ⟨by subst hA; exact ob1, by subst hA; exact ob2, by subst hA; exact ob3, hM _ ?_⟩
          refine tr_keep [0, 1, 4, 7, 8, 9, 10, 19, 20, 21, 40] (σ' := mkSl 68 0 [(0, .val (.list (.st [.int .i64, .int .i64, .int .i64])) .n t0_1), (1, .val (.list (.list (.bool))) .n t1_2), (4, .val (.box (.arr 6 (.int .i64))) (.b .n) t4_3), (7, .val (.box (.arr 6 (.int .i64))) (.b .n) t7_6), (8, .val (.box (.arr 6 (.int .i64))) (.b .n) t8_13), (9, .val (.int .i64) .n t21_9), (10, .val (.list (.bool)) .n t10_12), (19, .val (.list (.list (.bool))) .n t1_2), (20, .val (.int .i64) .n t20_7), (21, .val (.int .i64) .n t21_9), (40, .val (.bool) .n ((decide ((t8_13.getD t21_9.toNat (0 : Int)) < (t10_12.length : Int))) && (!(t10_12.getD (t8_13.getD t21_9.toNat (0 : Int)).toNat false))))]) (by subst hA; rfl) ?_
          clear ob3 ob2 ob1 hM hA M A
          refine tr_cond rfl (fun hc => ?_) (fun hc => ?_)
          · replace H := if_t H hc
            refine tr_keep [0, 1, 4, 7, 8, 9, 10, 19, 20, 21] (σ' := mkSl 68 0 [(0, .val (.list (.st [.int .i64, .int .i64, .int .i64])) .n t0_1), (1, .val (.list (.list (.bool))) .n t1_2), (4, .val (.box (.arr 6 (.int .i64))) (.b .n) t4_3), (7, .val (.box (.arr 6 (.int .i64))) (.b .n) t7_6), (8, .val (.box (.arr 6 (.int .i64))) (.b .n) t8_13), (9, .val (.int .i64) .n t21_9), (10, .val (.list (.bool)) .n t10_12), (19, .val (.list (.list (.bool))) .n t1_2), (20, .val (.int .i64) .n t20_7), (21, .val (.int .i64) .n t21_9)]) rfl ?_
            refine tr_skip ?_
            refine tr_block ?_
            refine tr_rg hP tabOk hsp fun A hA M hM => ?_
            cbv
            obtain ⟨ob1, H⟩ := ck_out H
            obtain ⟨ob2, H⟩ := ck_out H
            refine ⟨by subst hA; exact ob1, by subst hA; exact ob2, hM _ ?_⟩
            exact Exists.intro _ (And.intro (Option.some.inj H).symm (by subst hA; rfl))
          · replace H := if_f H hc
            refine tr_keep [0, 1, 4, 7, 8, 9, 10, 19, 20, 21] (σ' := mkSl 68 0 [(0, .val (.list (.st [.int .i64, .int .i64, .int .i64])) .n t0_1), (1, .val (.list (.list (.bool))) .n t1_2), (4, .val (.box (.arr 6 (.int .i64))) (.b .n) t4_3), (7, .val (.box (.arr 6 (.int .i64))) (.b .n) t7_6), (8, .val (.box (.arr 6 (.int .i64))) (.b .n) t8_13), (9, .val (.int .i64) .n t21_9), (10, .val (.list (.bool)) .n t10_12), (19, .val (.list (.list (.bool))) .n t1_2), (20, .val (.int .i64) .n t20_7), (21, .val (.int .i64) .n t21_9)]) rfl ?_
            refine tr_exit ?_
            exact And.intro rfl (Exists.intro _ (And.intro (Option.some.inj H).symm (by rfl)))
      · replace H := if_f H hc
        refine tr_keep [0, 1, 4, 7, 8, 19, 20, 21] (σ' := mkSl 68 0 [(0, .val (.list (.st [.int .i64, .int .i64, .int .i64])) .n t0_1), (1, .val (.list (.list (.bool))) .n t1_2), (4, .val (.box (.arr 6 (.int .i64))) (.b .n) t4_3), (7, .val (.box (.arr 6 (.int .i64))) (.b .n) t7_6), (8, .val (.box (.arr 6 (.int .i64))) (.b .n) t8_8), (19, .val (.list (.list (.bool))) .n t1_2), (20, .val (.int .i64) .n t20_7), (21, .val (.int .i64) .n t21_9)]) rfl ?_
        refine tr_exit ?_
        exact And.intro rfl (Exists.intro _ (And.intro (Option.some.inj H).symm (by rfl)))
theorem pred_First_sp : ∃ (pg : PT.denL [.list (.st [.int .i64, .int .i64, .int .i64]), .list (.list (.bool))] → Prop) (fg : PT.denL [.list (.st [.int .i64, .int .i64, .int .i64]), .list (.list (.bool))] → PT.denL [.arr 6 (.int .i64), .int .i64]), SpecRuns Try.prog 28 ⟨[.list (.st [.int .i64, .int .i64, .int .i64]), .list (.list (.bool))], [.v, .v], [.arr 6 (.int .i64), .int .i64], [.n, .n], pg, fg⟩ ∧ (∀ {a1 : List ((Int × Int × Int × Unit))} {a2 : List (List Bool)} {y : List Int × Int}, pred_First a1 a2 = some y → pg (a1, a2, ()) ∧ y = ((fg (a1, a2, ())).1, (fg (a1, a2, ())).2.1)) ∧ (∀ {a1 : List ((Int × Int × Int × Unit))} {a2 : List (List Bool)}, (pred_First a1 a2).isSome = true → pg (a1, a2, ())) ∧ ∀ {a1 : List ((Int × Int × Int × Unit))} {a2 : List (List Bool)}, (pred_First a1 a2).getD (List.replicate 6 (0 : Int), (0 : Int)) = ((fg (a1, a2, ())).1, (fg (a1, a2, ())).2.1) := by
  obtain ⟨pg, fg, h, hc, hi, hd⟩ := spec_hide pred_First_runs
  refine ⟨pg, fg, h, ?_, ?_, ?_⟩
  · intro a1 a2 y e
    obtain ⟨h1, h2⟩ := hc (a1, a2, ()) (y.1, y.2, ()) (congrArg (Option.map fun r => (r.1, r.2, ())) e)
    exact ⟨h1, by first | (rw [h2]; done) | (rw [h2]; rfl)⟩
  · intro a1 a2
    intro e
    exact hi (a1, a2, ()) (map_isSome e)
  · intro a1 a2
    rw [hd (a1, a2, ())]
    cases pred_First a1 a2 <;> rfl
end Go.Proofs.Ytdahfpfkjljojaa.Ct
