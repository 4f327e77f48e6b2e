/- Functions of the program as functions that may fail, and that the code computes them (printed). Each theorem bears its conditions itself. -/
import Derived.Test.YtdahfpfkjljojaaCtDefs
import Derived.Test.YtdahfpfkjljojaaCtTab
import Derived.Test.YtdahfpfkjljojaaCtQpredQCheck
import Derived.Test.YtdahfpfkjljojaaCtQcutQAll
import Derived.Test.YtdahfpfkjljojaaCtQpredQsizes
import Derived.Test.YtdahfpfkjljojaaCtQpredQholds
open Go Go.Proofs.Ytdahfpfkjljojaa.Sy Go.Proofs
set_option maxHeartbeats 4000000
set_option maxRecDepth 100000
set_option cbv.maxSteps 10000000
set_option linter.unusedVariables false
set_option linter.unusedSimpArgs false
namespace Go.Proofs.Ytdahfpfkjljojaa.Ct
theorem pred_Must_runs : SpecRuns Try.prog 32 (oSpec [.list (.st [.int .i64, .int .i64, .int .i64]), .list (.list (.bool))] [.v, .v] [.bool, .int .i64] [.n, .n] fun x => (pred_Must x.1 x.2.1).map fun r => (r.1, r.2, ())) := by
  obtain ⟨pg40, fg40, hs40, hc40, hi40, hd40⟩ := pred_Check_sp
  obtain ⟨pg21, fg21, hs21, hc21, hi21, hd21⟩ := cut_All_sp
  obtain ⟨pg42, fg42, hs42, hc42, hi42, hd42⟩ := pred_sizes_sp
  obtain ⟨pg41, fg41, hs41, hc41, hi41, hd41⟩ := pred_holds_sp
  have hsp : SpecsOk Try.prog [(40, ⟨[.list (.st [.int .i64, .int .i64, .int .i64]), .list (.list (.bool))], [.v, .v], [.int .i64], [.n], pg40, fg40⟩), (21, ⟨[.list (.st [.int .i64, .int .i64, .int .i64])], [.v], [.list (.arr 6 (.int .i64)), .int .i64], [.l .n, .n], pg21, fg21⟩), (42, ⟨[.list (.st [.int .i64, .int .i64, .int .i64])], [.v], [.arr 6 (.int .i64)], [.n], pg42, fg42⟩), (41, ⟨[.list (.list (.bool)), .arr 6 (.int .i64)], [.v, .v], [.bool], [.n], pg41, fg41⟩)] := (specsOk_cons Try.func40 (by kernel_rfl) (by kernel_rfl) hs40 (specsOk_cons Try.func21 (by kernel_rfl) (by kernel_rfl) hs21 (specsOk_cons Try.func42 (by kernel_rfl) (by kernel_rfl) hs42 (specsOk_cons Try.func41 (by kernel_rfl) (by kernel_rfl) hs41 specsOk_nil))))
  refine runs_of_o tabOk Try.func32 rfl (Nat.le_of_ble_eq_true rfl) rfl ?_
  rintro E ⟨(t0_1 : List ((Int × Int × Int × Unit))), (t1_2 : List (List Bool)), ⟨⟩⟩ y hP H hw
  obtain ⟨z, H1, rfl⟩ := map_out H
  replace H : pred_Must t0_1 t1_2 = some z := H1
  clear hw H1
  unfold pred_Must at H
  refine tr_keep [0, 1] (σ' := mkSl 74 0 [(0, .val (.list (.st [.int .i64, .int .i64, .int .i64])) .n t0_1), (1, .val (.list (.list (.bool))) .n t1_2)]) rfl ?_
  refine tr_seq ?_
  refine tr_rg hP tabOk hsp fun A hA M hM => ?_
  cbv
  refine hM _ ?_
  refine tr_seq ?_
  refine tr_seq ?_
  refine tr_keep [0, 1] (σ' := mkSl 74 0 [(0, .val (.list (.st [.int .i64, .int .i64, .int .i64])) .n t0_1), (1, .val (.list (.list (.bool))) .n t1_2)]) (by subst hA; rfl) ?_
  clear hM hA M A
  refine tr_rg hP tabOk hsp fun A hA M hM => ?_
  cbv
  obtain ⟨r_3, hr1, H⟩ := bind_out H
  obtain ⟨pq1, eq1⟩ := hc40 hr1
  refine ⟨by subst hA; subst eq1; exact pq1, hM _ ?_⟩
  refine tr_seq ?_
  refine tr_keep [0, 1, 6] (σ' := mkSl 74 0 [(0, .val (.list (.st [.int .i64, .int .i64, .int .i64])) .n t0_1), (1, .val (.list (.list (.bool))) .n t1_2), (6, .val (.int .i64) .n r_3)]) (by subst hA; subst eq1; rfl) ?_
  clear pq1 eq1 hr1 hM hA M A
  refine tr_rg hP tabOk hsp fun A hA M hM => ?_
  cbv
  refine hM _ ?_
  refine tr_keep [0, 1, 6, 20] (σ' := mkSl 74 0 [(0, .val (.list (.st [.int .i64, .int .i64, .int .i64])) .n t0_1), (1, .val (.list (.list (.bool))) .n t1_2), (6, .val (.int .i64) .n r_3), (20, .val (.bool) .n (r_3 != (0 : Int)))]) (by subst hA; rfl) ?_
  clear hM hA M A
  refine tr_cond rfl (fun hc => ?_) (fun hc => ?_)
  · replace H := if_t H hc
    refine tr_keep [0, 1, 6] (σ' := mkSl 74 0 [(0, .val (.list (.st [.int .i64, .int .i64, .int .i64])) .n t0_1), (1, .val (.list (.list (.bool))) .n t1_2), (6, .val (.int .i64) .n r_3)]) rfl ?_
    refine tr_seq ?_
    refine tr_rg hP tabOk hsp fun A hA M hM => ?_
    cbv
    refine hM _ ?_
    refine tr_ret ?_
    have hr := Option.some.inj H
    subst hr
    subst hA
    exact rfl
  · replace H := if_f H hc
    refine tr_keep [0, 1, 6] (σ' := mkSl 74 0 [(0, .val (.list (.st [.int .i64, .int .i64, .int .i64])) .n t0_1), (1, .val (.list (.list (.bool))) .n t1_2), (6, .val (.int .i64) .n r_3)]) rfl ?_
    refine tr_skip ?_
    refine tr_seq ?_
    refine tr_rg hP tabOk hsp fun A hA M hM => ?_
    cbv
    obtain ⟨r_4, hr1, H⟩ := bind_out H
    obtain ⟨pq1, eq1⟩ := hc21 hr1
    refine ⟨by subst hA; subst eq1; exact pq1, hM _ ?_⟩
    refine tr_seq ?_
    refine tr_seq ?_
    refine tr_keep [0, 1, 7, 8] (σ' := mkSl 74 0 [(0, .val (.list (.st [.int .i64, .int .i64, .int .i64])) .n t0_1), (1, .val (.list (.list (.bool))) .n t1_2), (7, .val (.list (.arr 6 (.int .i64))) (.l .n) r_4.1), (8, .val (.int .i64) .n r_4.2)]) (by subst hA; subst eq1; rfl) ?_
    clear pq1 eq1 hr1 hM hA M A
    refine tr_rg hP tabOk hsp fun A hA M hM => ?_
    cbv
    refine hM _ ?_
    refine tr_keep [0, 1, 7, 8, 28] (σ' := mkSl 74 0 [(0, .val (.list (.st [.int .i64, .int .i64, .int .i64])) .n t0_1), (1, .val (.list (.list (.bool))) .n t1_2), (7, .val (.list (.arr 6 (.int .i64))) (.l .n) r_4.1), (8, .val (.int .i64) .n r_4.2), (28, .val (.bool) .n (r_4.2 != (0 : Int)))]) (by subst hA; rfl) ?_
    clear hM hA M A
    refine tr_cond rfl (fun hc => ?_) (fun hc => ?_)
    · replace H := if_t H hc
      refine tr_keep [0, 1, 7, 8] (σ' := mkSl 74 0 [(0, .val (.list (.st [.int .i64, .int .i64, .int .i64])) .n t0_1), (1, .val (.list (.list (.bool))) .n t1_2), (7, .val (.list (.arr 6 (.int .i64))) (.l .n) r_4.1), (8, .val (.int .i64) .n r_4.2)]) rfl ?_
      refine tr_seq ?_
      refine tr_rg hP tabOk hsp fun A hA M hM => ?_
      cbv
      refine hM _ ?_
      refine tr_ret ?_
      have hr := Option.some.inj H
      subst hr
      subst hA
      exact rfl
    · replace H := if_f H hc
      refine tr_keep [0, 1, 7, 8] (σ' := mkSl 74 0 [(0, .val (.list (.st [.int .i64, .int .i64, .int .i64])) .n t0_1), (1, .val (.list (.list (.bool))) .n t1_2), (7, .val (.list (.arr 6 (.int .i64))) (.l .n) r_4.1), (8, .val (.int .i64) .n r_4.2)]) rfl ?_
      refine tr_skip ?_
      refine tr_seq ?_
      refine tr_rg hP tabOk hsp fun A hA M hM => ?_
      cbv
      obtain ⟨r_5, hr1, H⟩ := bind_out H
      obtain ⟨pq1, eq1⟩ := hc42 hr1
      refine ⟨by subst hA; subst eq1; exact pq1, hM _ ?_⟩
      refine tr_seq ?_
      refine tr_keep [1, 7, 9] (σ' := mkSl 74 0 [(1, .val (.list (.list (.bool))) .n t1_2), (7, .val (.list (.arr 6 (.int .i64))) (.l .n) r_4.1), (9, .val (.box (.arr 6 (.int .i64))) (.b .n) r_5)]) (by subst hA; subst eq1; rfl) ?_
      clear pq1 eq1 hr1 hM hA M A
      refine tr_rg hP tabOk hsp fun A hA M hM => ?_
      cbv
      refine hM _ ?_
      refine tr_seq ?_
      refine tr_seq ?_
      refine tr_keep [1, 7, 9, 10] (σ' := mkSl 74 0 [(1, .val (.list (.list (.bool))) .n t1_2), (7, .val (.list (.arr 6 (.int .i64))) (.l .n) r_4.1), (9, .val (.box (.arr 6 (.int .i64))) (.b .n) r_5), (10, .mp (.arr 6 (.int .i64)) (.int .i64) ([] : List (List Int × Int)))]) (by subst hA; rfl) ?_
      clear hM hA M A
      refine tr_rg hP tabOk hsp fun A hA M hM => ?_
      cbv
      refine hM _ ?_
      refine tr_block ?_
      refine tr_keepL [1, 7, 9, 10, 33, 34, 35] (fun t34_6 : Int => mkSl 74 0 [(1, .val (.list (.list (.bool))) .n t1_2), (7, .val (.list (.arr 6 (.int .i64))) (.l .n) r_4.1), (9, .val (.box (.arr 6 (.int .i64))) (.b .n) r_5), (10, .mp (.arr 6 (.int .i64)) (.int .i64) ([] : List (List Int × Int))), (33, .bor 7 []), (34, .val (.int .i64) .n t34_6), (35, .val (.int .i64) .n (0 : Int))]) H (by subst hA; rfl) (fun t34_6 H => ?_)
      clear hM hA M A
      obtain ⟨q_10, hq, H⟩ := bind_out H
      refine tr_loopB 0 (fun x : List (List Int × Int) × Int => pred_Must_L1 t1_2 r_4 t34_6 x.1 x.2) (fun x : List (List Int × Int) × Int => mkSl 74 0 [(1, .val (.list (.list (.bool))) .n t1_2), (7, .val (.list (.arr 6 (.int .i64))) (.l .n) r_4.1), (9, .val (.box (.arr 6 (.int .i64))) (.b .n) r_5), (10, .mp (.arr 6 (.int .i64)) (.int .i64) x.1), (33, .bor 7 []), (34, .val (.int .i64) .n t34_6), (35, .val (.int .i64) .n x.2)]) [1, 7, 9, 10, 33, 34, 35] (fun q_10 : List (List Int × Int) => mkSl 74 0 [(9, .val (.box (.arr 6 (.int .i64))) (.b .n) r_5), (10, .mp (.arr 6 (.int .i64)) (.int .i64) q_10)]) [9, 10] hq rfl (fun σ' h => ?_) (fun x r1 H => ?_)
      · refine tr_keep [9, 10] h ?_
        refine tr_seq ?_
        refine tr_rg hP tabOk hsp fun A hA M hM => ?_
        cbv
        refine hM _ ?_
        refine tr_ret ?_
        have hr := Option.some.inj H
        subst hr
        subst hA
        exact rfl
      · obtain ⟨t10_7, t35_8⟩ := x
        replace H : pred_Must_L1 t1_2 r_4 t34_6 t10_7 t35_8 = some r1 := H
        unfold pred_Must_L1 at H
        refine tr_seq ?_
        refine tr_rg hP tabOk hsp fun A hA M hM => ?_
        cbv
        refine hM _ ?_
        refine tr_seq ?_
        refine tr_keep [1, 7, 9, 10, 33, 34, 35, 36] (σ' := mkSl 74 0 [(1, .val (.list (.list (.bool))) .n t1_2), (7, .val (.list (.arr 6 (.int .i64))) (.l .n) r_4.1), (9, .val (.box (.arr 6 (.int .i64))) (.b .n) r_5), (10, .mp (.arr 6 (.int .i64)) (.int .i64) t10_7), (33, .bor 7 []), (34, .val (.int .i64) .n t34_6), (35, .val (.int .i64) .n t35_8), (36, .val (.bool) .n (decide (t35_8 < t34_6)))]) (by subst hA; rfl) ?_
        clear hM hA M A
        refine tr_cond rfl (fun hc => ?_) (fun hc => ?_)
        · replace H := if_t H hc
          refine tr_keep [1, 7, 9, 10, 33, 34, 35] (σ' := mkSl 74 0 [(1, .val (.list (.list (.bool))) .n t1_2), (7, .val (.list (.arr 6 (.int .i64))) (.l .n) r_4.1), (9, .val (.box (.arr 6 (.int .i64))) (.b .n) r_5), (10, .mp (.arr 6 (.int .i64)) (.int .i64) t10_7), (33, .bor 7 []), (34, .val (.int .i64) .n t34_6), (35, .val (.int .i64) .n t35_8)]) rfl ?_
          refine tr_skip ?_
          refine tr_seq ?_
          refine tr_block ?_
          refine tr_seq ?_
          refine tr_rg hP tabOk hsp fun A hA M hM => ?_
          cbv
          obtain ⟨ob1, H⟩ := ck_out H
          refine ⟨by subst hA; exact ob1, hM _ ?_⟩
          refine tr_seq ?_
          refine tr_seq ?_
          refine tr_keepL [1, 7, 9, 10, 12, 33, 34, 35] (fun t12_11 : List Int => mkSl 74 0 [(1, .val (.list (.list (.bool))) .n t1_2), (7, .val (.list (.arr 6 (.int .i64))) (.l .n) r_4.1), (9, .val (.box (.arr 6 (.int .i64))) (.b .n) r_5), (10, .mp (.arr 6 (.int .i64)) (.int .i64) t10_7), (12, .val (.box (.arr 6 (.int .i64))) (.b .n) t12_11), (33, .bor 7 []), (34, .val (.int .i64) .n t34_6), (35, .val (.int .i64) .n t35_8)]) H (by subst hA; rfl) (fun t12_11 H => ?_)
          clear ob1 hM hA M A
          refine tr_rg hP tabOk hsp fun A hA M hM => ?_
          cbv
          obtain ⟨r_12, hr1, H⟩ := bind_out H
          obtain ⟨pq1, eq1⟩ := hc41 hr1
          refine ⟨by subst hA; subst eq1; exact pq1, hM _ ?_⟩
          refine tr_keep [1, 7, 9, 10, 12, 33, 34, 35, 41] (σ' := mkSl 74 0 [(1, .val (.list (.list (.bool))) .n t1_2), (7, .val (.list (.arr 6 (.int .i64))) (.l .n) r_4.1), (9, .val (.box (.arr 6 (.int .i64))) (.b .n) r_5), (10, .mp (.arr 6 (.int .i64)) (.int .i64) t10_7), (12, .val (.box (.arr 6 (.int .i64))) (.b .n) t12_11), (33, .bor 7 []), (34, .val (.int .i64) .n t34_6), (35, .val (.int .i64) .n t35_8), (41, .val (.bool) .n r_12)]) (by subst hA; subst eq1; rfl) ?_
          clear pq1 eq1 hr1 hM hA M A
          refine tr_cond rfl (fun hc => ?_) (fun hc => ?_)
          · replace H := if_t H hc
            refine tr_exit ?_
            refine tr_rg hP tabOk hsp fun A hA M hM => ?_
            cbv
            refine hM _ ?_
            exact Exists.intro _ (And.intro (Option.some.inj H).symm (by subst hA; rfl))
          · replace H := if_f H hc
            refine tr_skip ?_
            refine tr_seq ?_
            refine tr_rg hP tabOk hsp fun A hA M hM => ?_
            cbv
            refine hM _ ?_
            refine tr_seq ?_
            refine tr_seq ?_
            refine tr_keepL [1, 7, 9, 10, 12, 13, 33, 34, 35] (fun t13_13 : Bool => mkSl 74 0 [(1, .val (.list (.list (.bool))) .n t1_2), (7, .val (.list (.arr 6 (.int .i64))) (.l .n) r_4.1), (9, .val (.box (.arr 6 (.int .i64))) (.b .n) r_5), (10, .mp (.arr 6 (.int .i64)) (.int .i64) t10_7), (12, .val (.box (.arr 6 (.int .i64))) (.b .n) t12_11), (13, .val (.bool) .n t13_13), (33, .bor 7 []), (34, .val (.int .i64) .n t34_6), (35, .val (.int .i64) .n t35_8)]) H (by subst hA; rfl) (fun t13_13 H => ?_)
            clear hM hA M A
            refine tr_rg hP tabOk hsp fun A hA M hM => ?_
            cbv
            refine hM _ ?_
            refine tr_block ?_
            refine tr_keep [1, 7, 9, 10, 12, 13, 33, 34, 35, 45] (σ' := mkSl 74 0 [(1, .val (.list (.list (.bool))) .n t1_2), (7, .val (.list (.arr 6 (.int .i64))) (.l .n) r_4.1), (9, .val (.box (.arr 6 (.int .i64))) (.b .n) r_5), (10, .mp (.arr 6 (.int .i64)) (.int .i64) t10_7), (12, .val (.box (.arr 6 (.int .i64))) (.b .n) t12_11), (13, .val (.bool) .n t13_13), (33, .bor 7 []), (34, .val (.int .i64) .n t34_6), (35, .val (.int .i64) .n t35_8), (45, .val (.int .i64) .n (0 : Int))]) (by subst hA; rfl) ?_
            clear hM hA M A
            obtain ⟨q_17, hq, H⟩ := bind_out H
            refine tr_loopB 2 (fun x : Bool × Int => pred_Must_L2 t10_7 t12_11 x.1 x.2) (fun x : Bool × Int => mkSl 74 0 [(1, .val (.list (.list (.bool))) .n t1_2), (7, .val (.list (.arr 6 (.int .i64))) (.l .n) r_4.1), (9, .val (.box (.arr 6 (.int .i64))) (.b .n) r_5), (10, .mp (.arr 6 (.int .i64)) (.int .i64) t10_7), (12, .val (.box (.arr 6 (.int .i64))) (.b .n) t12_11), (13, .val (.bool) .n x.1), (33, .bor 7 []), (34, .val (.int .i64) .n t34_6), (35, .val (.int .i64) .n t35_8), (45, .val (.int .i64) .n x.2)]) [1, 7, 9, 10, 12, 13, 33, 34, 35, 45] (fun q_17 : Bool => mkSl 74 0 [(1, .val (.list (.list (.bool))) .n t1_2), (7, .val (.list (.arr 6 (.int .i64))) (.l .n) r_4.1), (9, .val (.box (.arr 6 (.int .i64))) (.b .n) r_5), (10, .mp (.arr 6 (.int .i64)) (.int .i64) t10_7), (12, .val (.box (.arr 6 (.int .i64))) (.b .n) t12_11), (13, .val (.bool) .n q_17), (33, .bor 7 []), (34, .val (.int .i64) .n t34_6), (35, .val (.int .i64) .n t35_8)]) [1, 7, 9, 10, 12, 13, 33, 34, 35] hq rfl (fun σ' h => ?_) (fun x r2 H => ?_)
            · refine tr_keep [1, 7, 9, 10, 12, 13, 33, 34, 35] h ?_
              refine tr_seq ?_
              refine tr_rg hP tabOk hsp fun A hA M hM => ?_
              cbv
              refine hM _ ?_
              refine tr_keep [1, 7, 9, 10, 12, 33, 34, 35, 66] (σ' := mkSl 74 0 [(1, .val (.list (.list (.bool))) .n t1_2), (7, .val (.list (.arr 6 (.int .i64))) (.l .n) r_4.1), (9, .val (.box (.arr 6 (.int .i64))) (.b .n) r_5), (10, .mp (.arr 6 (.int .i64)) (.int .i64) t10_7), (12, .val (.box (.arr 6 (.int .i64))) (.b .n) t12_11), (33, .bor 7 []), (34, .val (.int .i64) .n t34_6), (35, .val (.int .i64) .n t35_8), (66, .val (.bool) .n q_17)]) (by subst hA; rfl) ?_
              clear hM hA M A
              refine tr_merge (fun y_21 : List (List Int × Int) => mkSl 74 0 [(1, .val (.list (.list (.bool))) .n t1_2), (7, .val (.list (.arr 6 (.int .i64))) (.l .n) r_4.1), (9, .val (.box (.arr 6 (.int .i64))) (.b .n) r_5), (10, .mp (.arr 6 (.int .i64)) (.int .i64) y_21), (33, .bor 7 []), (34, .val (.int .i64) .n t34_6), (35, .val (.int .i64) .n t35_8)]) [1, 7, 9, 10, 33, 34, 35] H rfl (fun _ h => h) (fun y_21 H => ?_) (fun hc => ?_) (fun hc => ?_)
              · refine tr_rg hP tabOk hsp fun A hA M hM => ?_
                cbv
                refine hM _ ?_
                exact Exists.intro _ (And.intro (Option.some.inj H).symm (by subst hA; rfl))
              · refine tr_rg hP tabOk hsp fun A hA M hM => ?_
                cbv
                refine hM _ ?_
                subst hA
                rfl
              · refine tr_skip ?_
                rfl
            · obtain ⟨t13_14, t45_15⟩ := x
              replace H : pred_Must_L2 t10_7 t12_11 t13_14 t45_15 = some r2 := H
              unfold pred_Must_L2 at H
              refine tr_seq ?_
              refine tr_rg hP tabOk hsp fun A hA M hM => ?_
              cbv
              refine hM _ ?_
              refine tr_seq ?_
              refine tr_keep [1, 7, 9, 10, 12, 13, 33, 34, 35, 45, 46] (σ' := mkSl 74 0 [(1, .val (.list (.list (.bool))) .n t1_2), (7, .val (.list (.arr 6 (.int .i64))) (.l .n) r_4.1), (9, .val (.box (.arr 6 (.int .i64))) (.b .n) r_5), (10, .mp (.arr 6 (.int .i64)) (.int .i64) t10_7), (12, .val (.box (.arr 6 (.int .i64))) (.b .n) t12_11), (13, .val (.bool) .n t13_14), (33, .bor 7 []), (34, .val (.int .i64) .n t34_6), (35, .val (.int .i64) .n t35_8), (45, .val (.int .i64) .n t45_15), (46, .val (.bool) .n (decide (t45_15 < (6 : Int))))]) (by subst hA; rfl) ?_
              clear hM hA M A
              refine tr_cond rfl (fun hc => ?_) (fun hc => ?_)
              · replace H := if_t H hc
                refine tr_keep [1, 7, 9, 10, 12, 13, 33, 34, 35, 45] (σ' := mkSl 74 0 [(1, .val (.list (.list (.bool))) .n t1_2), (7, .val (.list (.arr 6 (.int .i64))) (.l .n) r_4.1), (9, .val (.box (.arr 6 (.int .i64))) (.b .n) r_5), (10, .mp (.arr 6 (.int .i64)) (.int .i64) t10_7), (12, .val (.box (.arr 6 (.int .i64))) (.b .n) t12_11), (13, .val (.bool) .n t13_14), (33, .bor 7 []), (34, .val (.int .i64) .n t34_6), (35, .val (.int .i64) .n t35_8), (45, .val (.int .i64) .n t45_15)]) rfl ?_
                refine tr_skip ?_
                refine tr_seq ?_
                refine tr_block ?_
                refine tr_seq ?_
                refine tr_rg hP tabOk hsp fun A hA M hM => ?_
                cbv
                refine hM _ ?_
                refine tr_seq ?_
                refine tr_keep [1, 7, 9, 10, 12, 13, 14, 33, 34, 35, 45] (σ' := mkSl 74 0 [(1, .val (.list (.list (.bool))) .n t1_2), (7, .val (.list (.arr 6 (.int .i64))) (.l .n) r_4.1), (9, .val (.box (.arr 6 (.int .i64))) (.b .n) r_5), (10, .mp (.arr 6 (.int .i64)) (.int .i64) t10_7), (12, .val (.box (.arr 6 (.int .i64))) (.b .n) t12_11), (13, .val (.bool) .n t13_14), (14, .val (.int .i64) .n t45_15), (33, .bor 7 []), (34, .val (.int .i64) .n t34_6), (35, .val (.int .i64) .n t35_8), (45, .val (.int .i64) .n t45_15)]) (by subst hA; rfl) ?_
                clear hM hA M A
                refine tr_rg hP tabOk hsp fun A hA M hM => ?_
                cbv
                obtain ⟨ob1, H⟩ := ck_out H
                refine ⟨by subst hA; exact ob1, hM _ ?_⟩
                refine tr_keep [1, 7, 9, 10, 12, 13, 14, 33, 34, 35, 45, 51] (σ' := mkSl 74 0 [(1, .val (.list (.list (.bool))) .n t1_2), (7, .val (.list (.arr 6 (.int .i64))) (.l .n) r_4.1), (9, .val (.box (.arr 6 (.int .i64))) (.b .n) r_5), (10, .mp (.arr 6 (.int .i64)) (.int .i64) t10_7), (12, .val (.box (.arr 6 (.int .i64))) (.b .n) t12_11), (13, .val (.bool) .n t13_14), (14, .val (.int .i64) .n t45_15), (33, .bor 7 []), (34, .val (.int .i64) .n t34_6), (35, .val (.int .i64) .n t35_8), (45, .val (.int .i64) .n t45_15), (51, .val (.bool) .n (decide ((t12_11.getD t45_15.toNat (0 : Int)) > (0 : Int))))]) (by subst hA; rfl) ?_
                clear ob1 hM hA M A
                refine tr_join (z := r2) (fun y : Bool => pred_Must_J3 t45_15 y) (fun y : Bool => mkSl 74 0 [(1, .val (.list (.list (.bool))) .n t1_2), (7, .val (.list (.arr 6 (.int .i64))) (.l .n) r_4.1), (9, .val (.box (.arr 6 (.int .i64))) (.b .n) r_5), (10, .mp (.arr 6 (.int .i64)) (.int .i64) t10_7), (12, .val (.box (.arr 6 (.int .i64))) (.b .n) t12_11), (13, .val (.bool) .n y), (33, .bor 7 []), (34, .val (.int .i64) .n t34_6), (35, .val (.int .i64) .n t35_8), (45, .val (.int .i64) .n t45_15)]) [1, 7, 9, 10, 12, 13, 33, 34, 35, 45] (fun _ h => h) (fun y H => ?_) (fun hJ3 => ?_)
                · obtain ⟨t13_18, rfl⟩ : ∃ v, v = y := ⟨y, rfl⟩
                  replace H : pred_Must_J3 t45_15 t13_18 = some r2 := H
                  unfold pred_Must_J3 at H
                  refine tr_rg hP tabOk hsp fun A hA M hM => ?_
                  cbv
                  refine hM _ ?_
                  exact Exists.intro _ (And.intro (Option.some.inj H).symm (by subst hA; rfl))
                · refine tr_cond rfl (fun hc => ?_) (fun hc => ?_)
                  · replace H := if_t H hc
                    refine tr_keep [1, 7, 9, 10, 12, 13, 14, 33, 34, 35, 45] (σ' := mkSl 74 0 [(1, .val (.list (.list (.bool))) .n t1_2), (7, .val (.list (.arr 6 (.int .i64))) (.l .n) r_4.1), (9, .val (.box (.arr 6 (.int .i64))) (.b .n) r_5), (10, .mp (.arr 6 (.int .i64)) (.int .i64) t10_7), (12, .val (.box (.arr 6 (.int .i64))) (.b .n) t12_11), (13, .val (.bool) .n t13_14), (14, .val (.int .i64) .n t45_15), (33, .bor 7 []), (34, .val (.int .i64) .n t34_6), (35, .val (.int .i64) .n t35_8), (45, .val (.int .i64) .n t45_15)]) rfl ?_
                    refine tr_seq ?_
                    refine tr_rg hP tabOk hsp fun A hA M hM => ?_
                    cbv
                    refine hM _ ?_
                    refine tr_seq ?_
                    refine tr_keep [1, 7, 9, 10, 12, 13, 14, 15, 33, 34, 35, 45] (σ' := mkSl 74 0 [(1, .val (.list (.list (.bool))) .n t1_2), (7, .val (.list (.arr 6 (.int .i64))) (.l .n) r_4.1), (9, .val (.box (.arr 6 (.int .i64))) (.b .n) r_5), (10, .mp (.arr 6 (.int .i64)) (.int .i64) t10_7), (12, .val (.box (.arr 6 (.int .i64))) (.b .n) t12_11), (13, .val (.bool) .n t13_14), (14, .val (.int .i64) .n t45_15), (15, .val (.box (.arr 6 (.int .i64))) (.b .n) t12_11), (33, .bor 7 []), (34, .val (.int .i64) .n t34_6), (35, .val (.int .i64) .n t35_8), (45, .val (.int .i64) .n t45_15)]) (by subst hA; rfl) ?_
                    clear hM hA M A
                    refine tr_rg hP tabOk hsp fun A hA M hM => ?_
                    cbv
                    obtain ⟨ob1, H⟩ := ck_out H
                    obtain ⟨ob2, H⟩ := ck_out H
                    refine ⟨by subst hA; exact ob1, by subst hA; exact ob2, hM _ ?_⟩
                    refine tr_keepL [1, 7, 9, 10, 12, 13, 15, 33, 34, 35, 45] (fun t15_19 : List Int => mkSl 74 0 [(1, .val (.list (.list (.bool))) .n t1_2), (7, .val (.list (.arr 6 (.int .i64))) (.l .n) r_4.1), (9, .val (.box (.arr 6 (.int .i64))) (.b .n) r_5), (10, .mp (.arr 6 (.int .i64)) (.int .i64) t10_7), (12, .val (.box (.arr 6 (.int .i64))) (.b .n) t12_11), (13, .val (.bool) .n t13_14), (15, .val (.box (.arr 6 (.int .i64))) (.b .n) t15_19), (33, .bor 7 []), (34, .val (.int .i64) .n t34_6), (35, .val (.int .i64) .n t35_8), (45, .val (.int .i64) .n t45_15)]) H (by subst hA; rfl) (fun t15_19 H => ?_)
                    clear ob2 ob1 hM hA M A
                    refine tr_rg hP tabOk hsp fun A hA M hM => ?_
                    cbv
                    refine hM _ ?_
                    exact hJ3 (t13_14 || (decide ((mgetA6II t10_7 t15_19) > (0 : Int)))) _ H (by subst hA; rfl)
                  · replace H := if_f H hc
                    refine tr_keep [1, 7, 9, 10, 12, 13, 14, 33, 34, 35, 45] (σ' := mkSl 74 0 [(1, .val (.list (.list (.bool))) .n t1_2), (7, .val (.list (.arr 6 (.int .i64))) (.l .n) r_4.1), (9, .val (.box (.arr 6 (.int .i64))) (.b .n) r_5), (10, .mp (.arr 6 (.int .i64)) (.int .i64) t10_7), (12, .val (.box (.arr 6 (.int .i64))) (.b .n) t12_11), (13, .val (.bool) .n t13_14), (14, .val (.int .i64) .n t45_15), (33, .bor 7 []), (34, .val (.int .i64) .n t34_6), (35, .val (.int .i64) .n t35_8), (45, .val (.int .i64) .n t45_15)]) rfl ?_
                    refine tr_skip ?_
                    exact hJ3 t13_14 _ H (by rfl)
              · replace H := if_f H hc
                refine tr_keep [1, 7, 9, 10, 12, 13, 33, 34, 35, 45] (σ' := mkSl 74 0 [(1, .val (.list (.list (.bool))) .n t1_2), (7, .val (.list (.arr 6 (.int .i64))) (.l .n) r_4.1), (9, .val (.box (.arr 6 (.int .i64))) (.b .n) r_5), (10, .mp (.arr 6 (.int .i64)) (.int .i64) t10_7), (12, .val (.box (.arr 6 (.int .i64))) (.b .n) t12_11), (13, .val (.bool) .n t13_14), (33, .bor 7 []), (34, .val (.int .i64) .n t34_6), (35, .val (.int .i64) .n t35_8), (45, .val (.int .i64) .n t45_15)]) rfl ?_
                refine tr_exit ?_
                exact And.intro rfl (Exists.intro _ (And.intro (Option.some.inj H).symm (by rfl)))
        · replace H := if_f H hc
          refine tr_keep [1, 7, 9, 10, 33, 34, 35] (σ' := mkSl 74 0 [(1, .val (.list (.list (.bool))) .n t1_2), (7, .val (.list (.arr 6 (.int .i64))) (.l .n) r_4.1), (9, .val (.box (.arr 6 (.int .i64))) (.b .n) r_5), (10, .mp (.arr 6 (.int .i64)) (.int .i64) t10_7), (33, .bor 7 []), (34, .val (.int .i64) .n t34_6), (35, .val (.int .i64) .n t35_8)]) rfl ?_
          refine tr_exit ?_
          exact And.intro rfl (Exists.intro _ (And.intro (Option.some.inj H).symm (by rfl)))
theorem pred_Must_sp : ∃ (pg : PT.denL [.list (.st [.int .i64, .int .i64, .int .i64]), .list (.list (.bool))] → Prop) (fg : PT.denL [.list (.st [.int .i64, .int .i64, .int .i64]), .list (.list (.bool))] → PT.denL [.bool, .int .i64]), SpecRuns Try.prog 32 ⟨[.list (.st [.int .i64, .int .i64, .int .i64]), .list (.list (.bool))], [.v, .v], [.bool, .int .i64], [.n, .n], pg, fg⟩ ∧ (∀ {a1 : List ((Int × Int × Int × Unit))} {a2 : List (List Bool)} {y : Bool × Int}, pred_Must a1 a2 = some y → pg (a1, a2, ()) ∧ y = ((fg (a1, a2, ())).1, (fg (a1, a2, ())).2.1)) ∧ (∀ {a1 : List ((Int × Int × Int × Unit))} {a2 : List (List Bool)}, (pred_Must a1 a2).isSome = true → pg (a1, a2, ())) ∧ ∀ {a1 : List ((Int × Int × Int × Unit))} {a2 : List (List Bool)}, (pred_Must a1 a2).getD (false, (0 : Int)) = ((fg (a1, a2, ())).1, (fg (a1, a2, ())).2.1) := by
  obtain ⟨pg, fg, h, hc, hi, hd⟩ := spec_hide pred_Must_runs
  refine ⟨pg, fg, h, ?_, ?_, ?_⟩
  · intro a1 a2 y e
    obtain ⟨h1, h2⟩ := hc (a1, a2, ()) (y.1, y.2, ()) (congrArg (Option.map fun r => (r.1, r.2, ())) e)
    exact ⟨h1, by first | (rw [h2]; done) | (rw [h2]; rfl)⟩
  · intro a1 a2
    intro e
    exact hi (a1, a2, ()) (map_isSome e)
  · intro a1 a2
    rw [hd (a1, a2, ())]
    cases pred_Must a1 a2 <;> rfl
end Go.Proofs.Ytdahfpfkjljojaa.Ct
