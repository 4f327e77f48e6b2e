/- Functions of the program as functions that may fail, and that the code computes them (printed). Each theorem bears its conditions itself. -/
import Derived.Test.YtaachifkgcdeoaaLtDefs
import Derived.Test.YtaachifkgcdeoaaLtTab
open Go Go.Proofs.Ytaachifkgcdeoaa.Sy Go.Proofs
set_option maxHeartbeats 4000000
set_option maxRecDepth 100000
set_option cbv.maxSteps 10000000
set_option linter.unusedVariables false
set_option linter.unusedSimpArgs false
namespace Go.Proofs.Ytaachifkgcdeoaa.Lt
theorem poset_closed_runs : SpecRuns Try.prog 23 (oSpec [.st [.int .i64, .list (.st [.int .i64, .int .i64])]] [.v] [.box (.arr 20 (.arr 20 (.bool)))] [.b .n] fun x => (poset_closed x.1).map fun r => (r, ())) := by
  have hsp : SpecsOk Try.prog [] := specsOk_nil
  refine runs_of_o tabOk Try.func23 rfl (Nat.le_of_ble_eq_true rfl) rfl ?_
  rintro E ⟨(p_1 : (Int × List ((Int × Int × Unit)) × Unit)), ⟨⟩⟩ y hP H hw
  obtain ⟨z, H1, rfl⟩ := map_out H
  replace H : poset_closed p_1 = some z := H1
  clear hw H1
  unfold poset_closed at H
  refine tr_keep [0] (σ' := mkSl 64 0 [(0, .val (.st [.int .i64, .list (.st [.int .i64, .int .i64])]) .n p_1)]) rfl ?_
  refine tr_seq ?_
  refine tr_rg hP tabOk hsp fun A hA M hM => ?_
  cbv
  refine hM _ ?_
  refine tr_seq ?_
  refine tr_keep [1] (σ' := mkSl 64 0 [(1, .val (.box (.st [.int .i64, .list (.st [.int .i64, .int .i64])])) (.b .n) p_1)]) (by subst hA; rfl) ?_
  clear hM hA M A
  refine tr_rg hP tabOk hsp fun A hA M hM => ?_
  cbv
  refine hM _ ?_
  refine tr_seq ?_
  refine tr_seq ?_
  refine tr_keepL [1, 3] (fun t_2 : List (List Bool) => mkSl 64 0 [(1, .val (.box (.st [.int .i64, .list (.st [.int .i64, .int .i64])])) (.b .n) p_1), (3, .val (.box (.arr 20 (.arr 20 (.bool)))) (.b .n) t_2)]) H (by subst hA; rfl) (fun t_2 H => ?_)
  clear hM hA M A
  refine tr_rg hP tabOk hsp fun A hA M hM => ?_
  cbv
  refine hM _ ?_
  refine tr_block ?_
  refine tr_keepL [1, 3, 10, 11, 12] (fun t11_3 : Int => mkSl 64 0 [(1, .val (.box (.st [.int .i64, .list (.st [.int .i64, .int .i64])])) (.b .n) p_1), (3, .val (.box (.arr 20 (.arr 20 (.bool)))) (.b .n) t_2), (10, .val (.list (.st [.int .i64, .int .i64])) .n p_1.2.1), (11, .val (.int .i64) .n t11_3), (12, .val (.int .i64) .n (0 : Int))]) H (by subst hA; rfl) (fun t11_3 H => ?_)
  clear hM hA M A
  obtain ⟨q_7, hq, H⟩ := bind_out H
  refine tr_loopB 0 (fun x : List (List Bool) × Int => poset_closed_L1 p_1 t11_3 x.1 x.2) (fun x : List (List Bool) × Int => mkSl 64 0 [(1, .val (.box (.st [.int .i64, .list (.st [.int .i64, .int .i64])])) (.b .n) p_1), (3, .val (.box (.arr 20 (.arr 20 (.bool)))) (.b .n) x.1), (10, .val (.list (.st [.int .i64, .int .i64])) .n p_1.2.1), (11, .val (.int .i64) .n t11_3), (12, .val (.int .i64) .n x.2)]) [1, 3, 10, 11, 12] (fun q_7 : List (List Bool) => mkSl 64 0 [(1, .val (.box (.st [.int .i64, .list (.st [.int .i64, .int .i64])])) (.b .n) p_1), (3, .val (.box (.arr 20 (.arr 20 (.bool)))) (.b .n) q_7)]) [1, 3] hq rfl (fun σ' h => ?_) (fun x r1 H => ?_)
  · refine tr_keep [1, 3] h ?_
    refine tr_seq ?_
    refine tr_seq ?_
    refine tr_rg hP tabOk hsp fun A hA M hM => ?_
    cbv
    refine hM _ ?_
    refine tr_block ?_
    refine tr_keep [1, 3, 24, 25] (σ' := mkSl 64 0 [(1, .val (.box (.st [.int .i64, .list (.st [.int .i64, .int .i64])])) (.b .n) p_1), (3, .val (.box (.arr 20 (.arr 20 (.bool)))) (.b .n) q_7), (24, .val (.int .i64) .n p_1.1), (25, .val (.int .i64) .n (0 : Int))]) (by subst hA; rfl) ?_
    clear hM hA M A
    obtain ⟨q_13, hq, H⟩ := bind_out H
    refine tr_loopB 2 (fun x : List (List Bool) × Int => poset_closed_L2 p_1 x.1 x.2) (fun x : List (List Bool) × Int => mkSl 64 0 [(1, .val (.box (.st [.int .i64, .list (.st [.int .i64, .int .i64])])) (.b .n) p_1), (3, .val (.box (.arr 20 (.arr 20 (.bool)))) (.b .n) x.1), (24, .val (.int .i64) .n p_1.1), (25, .val (.int .i64) .n x.2)]) [1, 3, 24, 25] (fun q_13 : List (List Bool) => mkSl 64 0 [(3, .val (.box (.arr 20 (.arr 20 (.bool)))) (.b .n) q_13)]) [3] hq rfl (fun σ' h => ?_) (fun x r2 H => ?_)
    · refine tr_keep [3] h ?_
      refine tr_seq ?_
      refine tr_rg hP tabOk hsp fun A hA M hM => ?_
      cbv
      refine hM _ ?_
      refine tr_ret ?_
      have hr := Option.some.inj H
      subst hr
      subst hA
      exact rfl
    · obtain ⟨t_10, t25_11⟩ := x
      replace H : poset_closed_L2 p_1 t_10 t25_11 = some r2 := H
      unfold poset_closed_L2 at H
      refine tr_seq ?_
      refine tr_rg hP tabOk hsp fun A hA M hM => ?_
      cbv
      refine hM _ ?_
      refine tr_seq ?_
      refine tr_keep [1, 3, 24, 25, 26] (σ' := mkSl 64 0 [(1, .val (.box (.st [.int .i64, .list (.st [.int .i64, .int .i64])])) (.b .n) p_1), (3, .val (.box (.arr 20 (.arr 20 (.bool)))) (.b .n) t_10), (24, .val (.int .i64) .n p_1.1), (25, .val (.int .i64) .n t25_11), (26, .val (.bool) .n (decide (t25_11 < p_1.1)))]) (by subst hA; rfl) ?_
      clear hM hA M A
      refine tr_cond rfl (fun hc => ?_) (fun hc => ?_)
      · replace H := if_t H hc
        refine tr_keep [1, 3, 24, 25] (σ' := mkSl 64 0 [(1, .val (.box (.st [.int .i64, .list (.st [.int .i64, .int .i64])])) (.b .n) p_1), (3, .val (.box (.arr 20 (.arr 20 (.bool)))) (.b .n) t_10), (24, .val (.int .i64) .n p_1.1), (25, .val (.int .i64) .n t25_11)]) rfl ?_
        refine tr_skip ?_
        refine tr_seq ?_
        refine tr_block ?_
        refine tr_seq ?_
        refine tr_rg hP tabOk hsp fun A hA M hM => ?_
        cbv
        refine hM _ ?_
        refine tr_seq ?_
        refine tr_keep [1, 3, 6, 24, 25] (σ' := mkSl 64 0 [(1, .val (.box (.st [.int .i64, .list (.st [.int .i64, .int .i64])])) (.b .n) p_1), (3, .val (.box (.arr 20 (.arr 20 (.bool)))) (.b .n) t_10), (6, .val (.int .i64) .n t25_11), (24, .val (.int .i64) .n p_1.1), (25, .val (.int .i64) .n t25_11)]) (by subst hA; rfl) ?_
        clear hM hA M A
        refine tr_rg hP tabOk hsp fun A hA M hM => ?_
        cbv
        refine hM _ ?_
        refine tr_block ?_
        refine tr_keep [1, 3, 6, 24, 25, 29, 30] (σ' := mkSl 64 0 [(1, .val (.box (.st [.int .i64, .list (.st [.int .i64, .int .i64])])) (.b .n) p_1), (3, .val (.box (.arr 20 (.arr 20 (.bool)))) (.b .n) t_10), (6, .val (.int .i64) .n t25_11), (24, .val (.int .i64) .n p_1.1), (25, .val (.int .i64) .n t25_11), (29, .val (.int .i64) .n p_1.1), (30, .val (.int .i64) .n (0 : Int))]) (by subst hA; rfl) ?_
        clear hM hA M A
        obtain ⟨q_17, hq, H⟩ := bind_out H
        refine tr_loopB 4 (fun x : List (List Bool) × Int => poset_closed_L3 p_1 t25_11 x.1 x.2) (fun x : List (List Bool) × Int => mkSl 64 0 [(1, .val (.box (.st [.int .i64, .list (.st [.int .i64, .int .i64])])) (.b .n) p_1), (3, .val (.box (.arr 20 (.arr 20 (.bool)))) (.b .n) x.1), (6, .val (.int .i64) .n t25_11), (24, .val (.int .i64) .n p_1.1), (25, .val (.int .i64) .n t25_11), (29, .val (.int .i64) .n p_1.1), (30, .val (.int .i64) .n x.2)]) [1, 3, 6, 24, 25, 29, 30] (fun q_17 : List (List Bool) => mkSl 64 0 [(1, .val (.box (.st [.int .i64, .list (.st [.int .i64, .int .i64])])) (.b .n) p_1), (3, .val (.box (.arr 20 (.arr 20 (.bool)))) (.b .n) q_17), (24, .val (.int .i64) .n p_1.1), (25, .val (.int .i64) .n t25_11)]) [1, 3, 24, 25] hq rfl (fun σ' h => ?_) (fun x r3 H => ?_)
        · refine tr_keep [1, 3, 24, 25] h ?_
          refine tr_rg hP tabOk hsp fun A hA M hM => ?_
          cbv
          refine hM _ ?_
          exact Exists.intro _ (And.intro (Option.some.inj H).symm (by subst hA; rfl))
        · obtain ⟨t_14, t30_15⟩ := x
          replace H : poset_closed_L3 p_1 t25_11 t_14 t30_15 = some r3 := H
          unfold poset_closed_L3 at H
          refine tr_seq ?_
          refine tr_rg hP tabOk hsp fun A hA M hM => ?_
          cbv
          refine hM _ ?_
          refine tr_seq ?_
          refine tr_keep [1, 3, 6, 24, 25, 29, 30, 31] (σ' := mkSl 64 0 [(1, .val (.box (.st [.int .i64, .list (.st [.int .i64, .int .i64])])) (.b .n) p_1), (3, .val (.box (.arr 20 (.arr 20 (.bool)))) (.b .n) t_14), (6, .val (.int .i64) .n t25_11), (24, .val (.int .i64) .n p_1.1), (25, .val (.int .i64) .n t25_11), (29, .val (.int .i64) .n p_1.1), (30, .val (.int .i64) .n t30_15), (31, .val (.bool) .n (decide (t30_15 < p_1.1)))]) (by subst hA; rfl) ?_
          clear hM hA M A
          refine tr_cond rfl (fun hc => ?_) (fun hc => ?_)
          · replace H := if_t H hc
            refine tr_keep [1, 3, 6, 24, 25, 29, 30] (σ' := mkSl 64 0 [(1, .val (.box (.st [.int .i64, .list (.st [.int .i64, .int .i64])])) (.b .n) p_1), (3, .val (.box (.arr 20 (.arr 20 (.bool)))) (.b .n) t_14), (6, .val (.int .i64) .n t25_11), (24, .val (.int .i64) .n p_1.1), (25, .val (.int .i64) .n t25_11), (29, .val (.int .i64) .n p_1.1), (30, .val (.int .i64) .n t30_15)]) rfl ?_
            refine tr_skip ?_
            refine tr_seq ?_
            refine tr_block ?_
            refine tr_seq ?_
            refine tr_rg hP tabOk hsp fun A hA M hM => ?_
            cbv
            refine hM _ ?_
            refine tr_seq ?_
            refine tr_keep [1, 3, 6, 7, 24, 25, 29, 30] (σ' := mkSl 64 0 [(1, .val (.box (.st [.int .i64, .list (.st [.int .i64, .int .i64])])) (.b .n) p_1), (3, .val (.box (.arr 20 (.arr 20 (.bool)))) (.b .n) t_14), (6, .val (.int .i64) .n t25_11), (7, .val (.int .i64) .n t30_15), (24, .val (.int .i64) .n p_1.1), (25, .val (.int .i64) .n t25_11), (29, .val (.int .i64) .n p_1.1), (30, .val (.int .i64) .n t30_15)]) (by subst hA; rfl) ?_
            clear hM hA M A
            refine tr_rg hP tabOk hsp fun A hA M hM => ?_
            cbv
            refine hM _ ?_
            refine tr_block ?_
            refine tr_keep [1, 3, 6, 7, 24, 25, 29, 30, 34, 35] (σ' := mkSl 64 0 [(1, .val (.box (.st [.int .i64, .list (.st [.int .i64, .int .i64])])) (.b .n) p_1), (3, .val (.box (.arr 20 (.arr 20 (.bool)))) (.b .n) t_14), (6, .val (.int .i64) .n t25_11), (7, .val (.int .i64) .n t30_15), (24, .val (.int .i64) .n p_1.1), (25, .val (.int .i64) .n t25_11), (29, .val (.int .i64) .n p_1.1), (30, .val (.int .i64) .n t30_15), (34, .val (.int .i64) .n p_1.1), (35, .val (.int .i64) .n (0 : Int))]) (by subst hA; rfl) ?_
            clear hM hA M A
            obtain ⟨q_21, hq, H⟩ := bind_out H
            refine tr_loopB 6 (fun x : List (List Bool) × Int => poset_closed_L4 p_1 t25_11 t30_15 x.1 x.2) (fun x : List (List Bool) × Int => mkSl 64 0 [(1, .val (.box (.st [.int .i64, .list (.st [.int .i64, .int .i64])])) (.b .n) p_1), (3, .val (.box (.arr 20 (.arr 20 (.bool)))) (.b .n) x.1), (6, .val (.int .i64) .n t25_11), (7, .val (.int .i64) .n t30_15), (24, .val (.int .i64) .n p_1.1), (25, .val (.int .i64) .n t25_11), (29, .val (.int .i64) .n p_1.1), (30, .val (.int .i64) .n t30_15), (34, .val (.int .i64) .n p_1.1), (35, .val (.int .i64) .n x.2)]) [1, 3, 6, 7, 24, 25, 29, 30, 34, 35] (fun q_21 : List (List Bool) => mkSl 64 0 [(1, .val (.box (.st [.int .i64, .list (.st [.int .i64, .int .i64])])) (.b .n) p_1), (3, .val (.box (.arr 20 (.arr 20 (.bool)))) (.b .n) q_21), (6, .val (.int .i64) .n t25_11), (24, .val (.int .i64) .n p_1.1), (25, .val (.int .i64) .n t25_11), (29, .val (.int .i64) .n p_1.1), (30, .val (.int .i64) .n t30_15)]) [1, 3, 6, 24, 25, 29, 30] hq rfl (fun σ' h => ?_) (fun x r4 H => ?_)
            · refine tr_keep [1, 3, 6, 24, 25, 29, 30] h ?_
              refine tr_rg hP tabOk hsp fun A hA M hM => ?_
              cbv
              refine hM _ ?_
              exact Exists.intro _ (And.intro (Option.some.inj H).symm (by subst hA; rfl))
            · obtain ⟨t_18, t35_19⟩ := x
              replace H : poset_closed_L4 p_1 t25_11 t30_15 t_18 t35_19 = some r4 := H
              unfold poset_closed_L4 at H
              refine tr_seq ?_
              refine tr_rg hP tabOk hsp fun A hA M hM => ?_
              cbv
              refine hM _ ?_
              refine tr_seq ?_
              refine tr_keep [1, 3, 6, 7, 24, 25, 29, 30, 34, 35, 36] (σ' := mkSl 64 0 [(1, .val (.box (.st [.int .i64, .list (.st [.int .i64, .int .i64])])) (.b .n) p_1), (3, .val (.box (.arr 20 (.arr 20 (.bool)))) (.b .n) t_18), (6, .val (.int .i64) .n t25_11), (7, .val (.int .i64) .n t30_15), (24, .val (.int .i64) .n p_1.1), (25, .val (.int .i64) .n t25_11), (29, .val (.int .i64) .n p_1.1), (30, .val (.int .i64) .n t30_15), (34, .val (.int .i64) .n p_1.1), (35, .val (.int .i64) .n t35_19), (36, .val (.bool) .n (decide (t35_19 < p_1.1)))]) (by subst hA; rfl) ?_
              clear hM hA M A
              refine tr_cond rfl (fun hc => ?_) (fun hc => ?_)
              · replace H := if_t H hc
                refine tr_keep [1, 3, 6, 7, 24, 25, 29, 30, 34, 35] (σ' := mkSl 64 0 [(1, .val (.box (.st [.int .i64, .list (.st [.int .i64, .int .i64])])) (.b .n) p_1), (3, .val (.box (.arr 20 (.arr 20 (.bool)))) (.b .n) t_18), (6, .val (.int .i64) .n t25_11), (7, .val (.int .i64) .n t30_15), (24, .val (.int .i64) .n p_1.1), (25, .val (.int .i64) .n t25_11), (29, .val (.int .i64) .n p_1.1), (30, .val (.int .i64) .n t30_15), (34, .val (.int .i64) .n p_1.1), (35, .val (.int .i64) .n t35_19)]) rfl ?_
                refine tr_skip ?_
                refine tr_seq ?_
                refine tr_block ?_
                refine tr_seq ?_
                refine tr_rg hP tabOk hsp fun A hA M hM => ?_
                cbv
                refine hM _ ?_
                refine tr_keep [1, 3, 6, 7, 8, 24, 25, 29, 30, 34, 35] (σ' := mkSl 64 0 [(1, .val (.box (.st [.int .i64, .list (.st [.int .i64, .int .i64])])) (.b .n) p_1), (3, .val (.box (.arr 20 (.arr 20 (.bool)))) (.b .n) t_18), (6, .val (.int .i64) .n t25_11), (7, .val (.int .i64) .n t30_15), (8, .val (.int .i64) .n t35_19), (24, .val (.int .i64) .n p_1.1), (25, .val (.int .i64) .n t25_11), (29, .val (.int .i64) .n p_1.1), (30, .val (.int .i64) .n t30_15), (34, .val (.int .i64) .n p_1.1), (35, .val (.int .i64) .n t35_19)]) (by subst hA; rfl) ?_
                clear hM hA M A
                refine tr_rg hP tabOk hsp fun A hA M hM => ?_
                cbv
                obtain ⟨ob1, H⟩ := ck_out H
                obtain ⟨ob2, H⟩ := ck_out H
                obtain ⟨ob3, H⟩ := ck_out H
                obtain ⟨ob4, H⟩ := ck_out H
                obtain ⟨ob5, H⟩ := ck_out H
                obtain ⟨ob6, H⟩ := ck_out H
                obtain ⟨ob7, H⟩ := ck_out H
                obtain ⟨ob8, H⟩ := ck_out H
                refine ⟨by subst hA; exact ob1, by subst hA; exact ob2, by subst hA; exact ob3, by subst hA; exact ob4, by subst hA; exact ob5, by subst hA; exact ob6, by subst hA; exact ob7, by subst hA; exact ob8, hM _ ?_⟩
                refine tr_keepL [1, 3, 6, 7, 24, 25, 29, 30, 34, 35] (fun t_22 : List (List Bool) => mkSl 64 0 [(1, .val (.box (.st [.int .i64, .list (.st [.int .i64, .int .i64])])) (.b .n) p_1), (3, .val (.box (.arr 20 (.arr 20 (.bool)))) (.b .n) t_22), (6, .val (.int .i64) .n t25_11), (7, .val (.int .i64) .n t30_15), (24, .val (.int .i64) .n p_1.1), (25, .val (.int .i64) .n t25_11), (29, .val (.int .i64) .n p_1.1), (30, .val (.int .i64) .n t30_15), (34, .val (.int .i64) .n p_1.1), (35, .val (.int .i64) .n t35_19)]) H (by subst hA; rfl) (fun t_22 H => ?_)
                clear ob8 ob7 ob6 ob5 ob4 ob3 ob2 ob1 hM hA M A
                refine tr_rg hP tabOk hsp fun A hA M hM => ?_
                cbv
                refine hM _ ?_
                exact Exists.intro _ (And.intro (Option.some.inj H).symm (by subst hA; rfl))
              · replace H := if_f H hc
                refine tr_keep [1, 3, 6, 7, 24, 25, 29, 30, 34, 35] (σ' := mkSl 64 0 [(1, .val (.box (.st [.int .i64, .list (.st [.int .i64, .int .i64])])) (.b .n) p_1), (3, .val (.box (.arr 20 (.arr 20 (.bool)))) (.b .n) t_18), (6, .val (.int .i64) .n t25_11), (7, .val (.int .i64) .n t30_15), (24, .val (.int .i64) .n p_1.1), (25, .val (.int .i64) .n t25_11), (29, .val (.int .i64) .n p_1.1), (30, .val (.int .i64) .n t30_15), (34, .val (.int .i64) .n p_1.1), (35, .val (.int .i64) .n t35_19)]) rfl ?_
                refine tr_exit ?_
                exact And.intro rfl (Exists.intro _ (And.intro (Option.some.inj H).symm (by rfl)))
          · replace H := if_f H hc
            refine tr_keep [1, 3, 6, 24, 25, 29, 30] (σ' := mkSl 64 0 [(1, .val (.box (.st [.int .i64, .list (.st [.int .i64, .int .i64])])) (.b .n) p_1), (3, .val (.box (.arr 20 (.arr 20 (.bool)))) (.b .n) t_14), (6, .val (.int .i64) .n t25_11), (24, .val (.int .i64) .n p_1.1), (25, .val (.int .i64) .n t25_11), (29, .val (.int .i64) .n p_1.1), (30, .val (.int .i64) .n t30_15)]) rfl ?_
            refine tr_exit ?_
            exact And.intro rfl (Exists.intro _ (And.intro (Option.some.inj H).symm (by rfl)))
      · replace H := if_f H hc
        refine tr_keep [1, 3, 24, 25] (σ' := mkSl 64 0 [(1, .val (.box (.st [.int .i64, .list (.st [.int .i64, .int .i64])])) (.b .n) p_1), (3, .val (.box (.arr 20 (.arr 20 (.bool)))) (.b .n) t_10), (24, .val (.int .i64) .n p_1.1), (25, .val (.int .i64) .n t25_11)]) rfl ?_
        refine tr_exit ?_
        exact And.intro rfl (Exists.intro _ (And.intro (Option.some.inj H).symm (by rfl)))
  · obtain ⟨t_4, t12_5⟩ := x
    replace H : poset_closed_L1 p_1 t11_3 t_4 t12_5 = some r1 := H
    unfold poset_closed_L1 at H
    refine tr_seq ?_
    refine tr_rg hP tabOk hsp fun A hA M hM => ?_
    cbv
    refine hM _ ?_
    refine tr_seq ?_
    refine tr_keep [1, 3, 10, 11, 12, 13] (σ' := mkSl 64 0 [(1, .val (.box (.st [.int .i64, .list (.st [.int .i64, .int .i64])])) (.b .n) p_1), (3, .val (.box (.arr 20 (.arr 20 (.bool)))) (.b .n) t_4), (10, .val (.list (.st [.int .i64, .int .i64])) .n p_1.2.1), (11, .val (.int .i64) .n t11_3), (12, .val (.int .i64) .n t12_5), (13, .val (.bool) .n (decide (t12_5 < t11_3)))]) (by subst hA; rfl) ?_
    clear hM hA M A
    refine tr_cond rfl (fun hc => ?_) (fun hc => ?_)
    · replace H := if_t H hc
      refine tr_keep [1, 3, 10, 11, 12] (σ' := mkSl 64 0 [(1, .val (.box (.st [.int .i64, .list (.st [.int .i64, .int .i64])])) (.b .n) p_1), (3, .val (.box (.arr 20 (.arr 20 (.bool)))) (.b .n) t_4), (10, .val (.list (.st [.int .i64, .int .i64])) .n p_1.2.1), (11, .val (.int .i64) .n t11_3), (12, .val (.int .i64) .n t12_5)]) rfl ?_
      refine tr_skip ?_
      refine tr_seq ?_
      refine tr_block ?_
      refine tr_seq ?_
      refine tr_rg hP tabOk hsp fun A hA M hM => ?_
      cbv
      obtain ⟨ob1, H⟩ := ck_out H
      refine ⟨by subst hA; exact ob1, hM _ ?_⟩
      refine tr_keepL [1, 3, 5, 10, 11, 12] (fun x_8 : (Int × Int × Unit) => mkSl 64 0 [(1, .val (.box (.st [.int .i64, .list (.st [.int .i64, .int .i64])])) (.b .n) p_1), (3, .val (.box (.arr 20 (.arr 20 (.bool)))) (.b .n) t_4), (5, .val (.box (.st [.int .i64, .int .i64])) (.b .n) x_8), (10, .val (.list (.st [.int .i64, .int .i64])) .n p_1.2.1), (11, .val (.int .i64) .n t11_3), (12, .val (.int .i64) .n t12_5)]) H (by subst hA; rfl) (fun x_8 H => ?_)
      clear ob1 hM hA M A
      refine tr_rg hP tabOk hsp fun A hA M hM => ?_
      cbv
      obtain ⟨ob1, H⟩ := ck_out H
      obtain ⟨ob2, H⟩ := ck_out H
      refine ⟨by subst hA; exact ob1, by subst hA; exact ob2, hM _ ?_⟩
      refine tr_keepL [1, 3, 10, 11, 12] (fun t_9 : List (List Bool) => mkSl 64 0 [(1, .val (.box (.st [.int .i64, .list (.st [.int .i64, .int .i64])])) (.b .n) p_1), (3, .val (.box (.arr 20 (.arr 20 (.bool)))) (.b .n) t_9), (10, .val (.list (.st [.int .i64, .int .i64])) .n p_1.2.1), (11, .val (.int .i64) .n t11_3), (12, .val (.int .i64) .n t12_5)]) H (by subst hA; rfl) (fun t_9 H => ?_)
      clear ob2 ob1 hM hA M A
      refine tr_rg hP tabOk hsp fun A hA M hM => ?_
      cbv
      refine hM _ ?_
      exact Exists.intro _ (And.intro (Option.some.inj H).symm (by subst hA; rfl))
    · replace H := if_f H hc
      refine tr_keep [1, 3, 10, 11, 12] (σ' := mkSl 64 0 [(1, .val (.box (.st [.int .i64, .list (.st [.int .i64, .int .i64])])) (.b .n) p_1), (3, .val (.box (.arr 20 (.arr 20 (.bool)))) (.b .n) t_4), (10, .val (.list (.st [.int .i64, .int .i64])) .n p_1.2.1), (11, .val (.int .i64) .n t11_3), (12, .val (.int .i64) .n t12_5)]) rfl ?_
      refine tr_exit ?_
      exact And.intro rfl (Exists.intro _ (And.intro (Option.some.inj H).symm (by rfl)))
theorem poset_closed_sp : ∃ (pg : PT.denL [.st [.int .i64, .list (.st [.int .i64, .int .i64])]] → Prop) (fg : PT.denL [.st [.int .i64, .list (.st [.int .i64, .int .i64])]] → PT.denL [.box (.arr 20 (.arr 20 (.bool)))]), SpecRuns Try.prog 23 ⟨[.st [.int .i64, .list (.st [.int .i64, .int .i64])]], [.v], [.box (.arr 20 (.arr 20 (.bool)))], [.b .n], pg, fg⟩ ∧ (∀ {a1 : (Int × List ((Int × Int × Unit)) × Unit)} {y : List (List Bool)}, poset_closed a1 = some y → pg (a1, ()) ∧ y = (fg (a1, ())).1) ∧ (∀ {a1 : (Int × List ((Int × Int × Unit)) × Unit)}, (poset_closed a1).isSome = true → pg (a1, ())) ∧ ∀ {a1 : (Int × List ((Int × Int × Unit)) × Unit)}, (poset_closed a1).getD (List.replicate 20 (List.replicate 20 false)) = (fg (a1, ())).1 := by
  obtain ⟨pg, fg, h, hc, hi, hd⟩ := spec_hide poset_closed_runs
  refine ⟨pg, fg, h, ?_, ?_, ?_⟩
  · intro a1 y e
    obtain ⟨h1, h2⟩ := hc (a1, ()) (y, ()) (congrArg (Option.map fun r => (r, ())) e)
    exact ⟨h1, by first | (rw [h2]; done) | (rw [h2]; rfl)⟩
  · intro a1
    intro e
    exact hi (a1, ()) (map_isSome e)
  · intro a1
    rw [hd (a1, ())]
    cases poset_closed a1 <;> rfl
end Go.Proofs.Ytaachifkgcdeoaa.Lt
