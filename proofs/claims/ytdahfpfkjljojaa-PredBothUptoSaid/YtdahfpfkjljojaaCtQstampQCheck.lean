/- Functions of the program as functions that may fail, and that the code computes them (printed). Each theorem bears its conditions itself. -/
import Derived.Test.YtdahfpfkjljojaaCtDefs
import Derived.Test.YtdahfpfkjljojaaCtTab
open Go Go.Proofs.Ytdahfpfkjljojaa.Sy Go.Proofs
set_option maxHeartbeats 4000000
set_option maxRecDepth 100000
set_option cbv.maxSteps 10000000
set_option linter.unusedVariables false
set_option linter.unusedSimpArgs false
namespace Go.Proofs.Ytdahfpfkjljojaa.Ct
theorem stamp_Check_runs : SpecRuns Try.prog 14 (oSpec [.list (.st [.int .i64, .int .i64, .int .i64])] [.v] [.int .i64] [.n] fun x => (stamp_Check x.1).map fun r => (r, ())) := by
  have hsp : SpecsOk Try.prog [] := specsOk_nil
  refine runs_of_o tabOk Try.func14 rfl (Nat.le_of_ble_eq_true rfl) rfl ?_
  rintro E ⟨(t0_1 : List ((Int × Int × Int × Unit))), ⟨⟩⟩ y hP H hw
  obtain ⟨z, H1, rfl⟩ := map_out H
  replace H : stamp_Check t0_1 = some z := H1
  clear hw H1
  unfold stamp_Check at H
  refine tr_keep [0] (σ' := mkSl 87 0 [(0, .val (.list (.st [.int .i64, .int .i64, .int .i64])) .n t0_1)]) rfl ?_
  refine tr_seq ?_
  refine tr_rg hP tabOk hsp fun A hA M hM => ?_
  cbv
  refine hM _ ?_
  refine tr_seq ?_
  refine tr_seq ?_
  refine tr_keep [0] (σ' := mkSl 87 0 [(0, .val (.list (.st [.int .i64, .int .i64, .int .i64])) .n t0_1)]) (by subst hA; rfl) ?_
  clear hM hA M A
  refine tr_rg hP tabOk hsp fun A hA M hM => ?_
  cbv
  refine hM _ ?_
  refine tr_keep [0, 9] (σ' := mkSl 87 0 [(0, .val (.list (.st [.int .i64, .int .i64, .int .i64])) .n t0_1), (9, .val (.bool) .n (decide ((t0_1.length : Int) > (60 : Int))))]) (by subst hA; rfl) ?_
  clear hM hA M A
  refine tr_cond rfl (fun hc => ?_) (fun hc => ?_)
  · replace H := if_t H hc
    refine tr_keep [0] (σ' := mkSl 87 0 [(0, .val (.list (.st [.int .i64, .int .i64, .int .i64])) .n t0_1)]) rfl ?_
    refine tr_seq ?_
    refine tr_rg hP tabOk hsp fun A hA M hM => ?_
    cbv
    refine hM _ ?_
    refine tr_ret ?_
    have hr := Option.some.inj H
    subst hr
    subst hA
    exact rfl
  · replace H := if_f H hc
    refine tr_keep [0] (σ' := mkSl 87 0 [(0, .val (.list (.st [.int .i64, .int .i64, .int .i64])) .n t0_1)]) rfl ?_
    refine tr_skip ?_
    refine tr_seq ?_
    refine tr_rg hP tabOk hsp fun A hA M hM => ?_
    cbv
    refine hM _ ?_
    refine tr_seq ?_
    refine tr_keepL [0, 3] (fun t3_2 : List Int => mkSl 87 0 [(0, .val (.list (.st [.int .i64, .int .i64, .int .i64])) .n t0_1), (3, .val (.box (.arr 30 (.int .i64))) (.b .n) t3_2)]) H (by subst hA; rfl) (fun t3_2 H => ?_)
    clear hM hA M A
    refine tr_rg hP tabOk hsp fun A hA M hM => ?_
    cbv
    refine hM _ ?_
    refine tr_seq ?_
    refine tr_seq ?_
    refine tr_keepL [0, 3, 4] (fun t4_3 : List (List Bool) => mkSl 87 0 [(0, .val (.list (.st [.int .i64, .int .i64, .int .i64])) .n t0_1), (3, .val (.box (.arr 30 (.int .i64))) (.b .n) t3_2), (4, .val (.box (.arr 30 (.arr 6 (.bool)))) (.b .n) t4_3)]) H (by subst hA; rfl) (fun t4_3 H => ?_)
    clear hM hA M A
    refine tr_rg hP tabOk hsp fun A hA M hM => ?_
    cbv
    refine hM _ ?_
    refine tr_block ?_
    refine tr_keepL [3, 4, 10, 11, 12] (fun t11_4 : Int => mkSl 87 0 [(3, .val (.box (.arr 30 (.int .i64))) (.b .n) t3_2), (4, .val (.box (.arr 30 (.arr 6 (.bool)))) (.b .n) t4_3), (10, .val (.list (.st [.int .i64, .int .i64, .int .i64])) .n t0_1), (11, .val (.int .i64) .n t11_4), (12, .val (.int .i64) .n (0 : Int))]) H (by subst hA; rfl) (fun t11_4 H => ?_)
    clear hM hA M A
    obtain ⟨q, hq, Hl, Hr⟩ := bindE_out H
    refine tr_loopE 0 (fun x : List Int × List (List Bool) × Int => stamp_Check_L1 t0_1 t11_4 x.1 x.2.1 x.2.2) (fun x : List Int × List (List Bool) × Int => mkSl 87 0 [(3, .val (.box (.arr 30 (.int .i64))) (.b .n) x.1), (4, .val (.box (.arr 30 (.arr 6 (.bool)))) (.b .n) x.2.1), (10, .val (.list (.st [.int .i64, .int .i64, .int .i64])) .n t0_1), (11, .val (.int .i64) .n t11_4), (12, .val (.int .i64) .n x.2.2)]) [3, 4, 10, 11, 12] (fun q_8 : Unit => mkSl 87 0 []) [] hq rfl Hr (fun q_8 hl σ' h => ?_) (fun x r1 H => ?_)
    · replace H := Hl q_8 hl
      refine tr_keep [] h ?_
      refine tr_seq ?_
      refine tr_rg hP tabOk hsp fun A hA M hM => ?_
      cbv
      refine hM _ ?_
      refine tr_ret ?_
      have hr := Option.some.inj H
      subst hr
      subst hA
      exact rfl
    · obtain ⟨t3_5, t4_6, t12_7⟩ := x
      replace H : stamp_Check_L1 t0_1 t11_4 t3_5 t4_6 t12_7 = some r1 := H
      unfold stamp_Check_L1 at H
      refine tr_seq ?_
      refine tr_rg hP tabOk hsp fun A hA M hM => ?_
      cbv
      refine hM _ ?_
      refine tr_seq ?_
      refine tr_keep [3, 4, 10, 11, 12, 13] (σ' := mkSl 87 0 [(3, .val (.box (.arr 30 (.int .i64))) (.b .n) t3_5), (4, .val (.box (.arr 30 (.arr 6 (.bool)))) (.b .n) t4_6), (10, .val (.list (.st [.int .i64, .int .i64, .int .i64])) .n t0_1), (11, .val (.int .i64) .n t11_4), (12, .val (.int .i64) .n t12_7), (13, .val (.bool) .n (decide (t12_7 < t11_4)))]) (by subst hA; rfl) ?_
      clear hM hA M A
      refine tr_cond rfl (fun hc => ?_) (fun hc => ?_)
      · replace H := if_t H hc
        refine tr_keep [3, 4, 10, 11, 12] (σ' := mkSl 87 0 [(3, .val (.box (.arr 30 (.int .i64))) (.b .n) t3_5), (4, .val (.box (.arr 30 (.arr 6 (.bool)))) (.b .n) t4_6), (10, .val (.list (.st [.int .i64, .int .i64, .int .i64])) .n t0_1), (11, .val (.int .i64) .n t11_4), (12, .val (.int .i64) .n t12_7)]) rfl ?_
        refine tr_skip ?_
        refine tr_seq ?_
        refine tr_block ?_
        refine tr_seq ?_
        refine tr_rg hP tabOk hsp fun A hA M hM => ?_
        cbv
        obtain ⟨ob1, H⟩ := ck_out H
        refine ⟨by subst hA; exact ob1, hM _ ?_⟩
        refine tr_seq ?_
        refine tr_seq ?_
        refine tr_keepL [3, 4, 6, 10, 11, 12] (fun t6_9 : (Int × Int × Int × Unit) => mkSl 87 0 [(3, .val (.box (.arr 30 (.int .i64))) (.b .n) t3_5), (4, .val (.box (.arr 30 (.arr 6 (.bool)))) (.b .n) t4_6), (6, .val (.box (.st [.int .i64, .int .i64, .int .i64])) (.b .n) t6_9), (10, .val (.list (.st [.int .i64, .int .i64, .int .i64])) .n t0_1), (11, .val (.int .i64) .n t11_4), (12, .val (.int .i64) .n t12_7)]) H (by subst hA; rfl) (fun t6_9 H => ?_)
        clear ob1 hM hA M A
        refine tr_rg hP tabOk hsp fun A hA M hM => ?_
        cbv
        refine hM _ ?_
        refine tr_keep [3, 4, 6, 10, 11, 12, 33] (σ' := mkSl 87 0 [(3, .val (.box (.arr 30 (.int .i64))) (.b .n) t3_5), (4, .val (.box (.arr 30 (.arr 6 (.bool)))) (.b .n) t4_6), (6, .val (.box (.st [.int .i64, .int .i64, .int .i64])) (.b .n) t6_9), (10, .val (.list (.st [.int .i64, .int .i64, .int .i64])) .n t0_1), (11, .val (.int .i64) .n t11_4), (12, .val (.int .i64) .n t12_7), (33, .val (.bool) .n ((((decide (t6_9.1 < (0 : Int))) || (decide (t6_9.1 ≥ (6 : Int)))) || (decide (t6_9.2.2.1 < (0 : Int)))) || (decide (t6_9.2.2.1 ≥ (30 : Int)))))]) (by subst hA; rfl) ?_
        clear hM hA M A
        refine tr_cond rfl (fun hc => ?_) (fun hc => ?_)
        · replace H := if_t H hc
          refine tr_keep [3, 4, 6, 10, 11, 12] (σ' := mkSl 87 0 [(3, .val (.box (.arr 30 (.int .i64))) (.b .n) t3_5), (4, .val (.box (.arr 30 (.arr 6 (.bool)))) (.b .n) t4_6), (6, .val (.box (.st [.int .i64, .int .i64, .int .i64])) (.b .n) t6_9), (10, .val (.list (.st [.int .i64, .int .i64, .int .i64])) .n t0_1), (11, .val (.int .i64) .n t11_4), (12, .val (.int .i64) .n t12_7)]) rfl ?_
          refine tr_seq ?_
          refine tr_rg hP tabOk hsp fun A hA M hM => ?_
          cbv
          refine hM _ ?_
          refine tr_ret ?_
          have hr := Option.some.inj H
          refine Exists.intro _ (And.intro hr.symm (fun hr => ?_))
          subst hr
          subst hA
          exact rfl
        · replace H := if_f H hc
          refine tr_keep [3, 4, 6, 10, 11, 12] (σ' := mkSl 87 0 [(3, .val (.box (.arr 30 (.int .i64))) (.b .n) t3_5), (4, .val (.box (.arr 30 (.arr 6 (.bool)))) (.b .n) t4_6), (6, .val (.box (.st [.int .i64, .int .i64, .int .i64])) (.b .n) t6_9), (10, .val (.list (.st [.int .i64, .int .i64, .int .i64])) .n t0_1), (11, .val (.int .i64) .n t11_4), (12, .val (.int .i64) .n t12_7)]) rfl ?_
          refine tr_skip ?_
          refine tr_seq ?_
          refine tr_rg hP tabOk hsp fun A hA M hM => ?_
          cbv
          refine hM _ ?_
          refine tr_block ?_
          refine tr_seq ?_
          refine tr_keep [3, 4, 6, 10, 11, 12, 35] (σ' := mkSl 87 0 [(3, .val (.box (.arr 30 (.int .i64))) (.b .n) t3_5), (4, .val (.box (.arr 30 (.arr 6 (.bool)))) (.b .n) t4_6), (6, .val (.box (.st [.int .i64, .int .i64, .int .i64])) (.b .n) t6_9), (10, .val (.list (.st [.int .i64, .int .i64, .int .i64])) .n t0_1), (11, .val (.int .i64) .n t11_4), (12, .val (.int .i64) .n t12_7), (35, .val (.int .i64) .n t6_9.2.1)]) (by subst hA; rfl) ?_
          clear hM hA M A
          refine tr_rg hP tabOk hsp fun A hA M hM => ?_
          cbv
          refine hM _ ?_
          refine tr_keep [3, 4, 6, 10, 11, 12, 35, 36] (σ' := mkSl 87 0 [(3, .val (.box (.arr 30 (.int .i64))) (.b .n) t3_5), (4, .val (.box (.arr 30 (.arr 6 (.bool)))) (.b .n) t4_6), (6, .val (.box (.st [.int .i64, .int .i64, .int .i64])) (.b .n) t6_9), (10, .val (.list (.st [.int .i64, .int .i64, .int .i64])) .n t0_1), (11, .val (.int .i64) .n t11_4), (12, .val (.int .i64) .n t12_7), (35, .val (.int .i64) .n t6_9.2.1), (36, .val (.bool) .n (t6_9.2.1 == (1 : Int)))]) (by subst hA; rfl) ?_
          clear hM hA M A
          refine tr_join (z := r1) (fun y : List Int × List (List Bool) => stamp_Check_J2 t12_7 y.1 y.2) (fun y : List Int × List (List Bool) => mkSl 87 0 [(3, .val (.box (.arr 30 (.int .i64))) (.b .n) y.1), (4, .val (.box (.arr 30 (.arr 6 (.bool)))) (.b .n) y.2), (10, .val (.list (.st [.int .i64, .int .i64, .int .i64])) .n t0_1), (11, .val (.int .i64) .n t11_4), (12, .val (.int .i64) .n t12_7)]) [3, 4, 10, 11, 12] (fun _ h => h) (fun y H => ?_) (fun hJ2 => ?_)
          · obtain ⟨t3_10, t4_11⟩ := y
            replace H : stamp_Check_J2 t12_7 t3_10 t4_11 = some r1 := H
            unfold stamp_Check_J2 at H
            refine tr_rg hP tabOk hsp fun A hA M hM => ?_
            cbv
            refine hM _ ?_
            exact Exists.intro _ (And.intro (Option.some.inj H).symm (by subst hA; rfl))
          · refine tr_cond rfl (fun hc => ?_) (fun hc => ?_)
            · replace H := if_t H hc
              refine tr_keep [3, 4, 6, 10, 11, 12, 35] (σ' := mkSl 87 0 [(3, .val (.box (.arr 30 (.int .i64))) (.b .n) t3_5), (4, .val (.box (.arr 30 (.arr 6 (.bool)))) (.b .n) t4_6), (6, .val (.box (.st [.int .i64, .int .i64, .int .i64])) (.b .n) t6_9), (10, .val (.list (.st [.int .i64, .int .i64, .int .i64])) .n t0_1), (11, .val (.int .i64) .n t11_4), (12, .val (.int .i64) .n t12_7), (35, .val (.int .i64) .n t6_9.2.1)]) rfl ?_
              refine tr_seq ?_
              refine tr_rg hP tabOk hsp fun A hA M hM => ?_
              cbv
              refine hM _ ?_
              refine tr_keep [3, 4, 10, 11, 12, 40] (σ' := mkSl 87 0 [(3, .val (.box (.arr 30 (.int .i64))) (.b .n) t3_5), (4, .val (.box (.arr 30 (.arr 6 (.bool)))) (.b .n) t4_6), (10, .val (.list (.st [.int .i64, .int .i64, .int .i64])) .n t0_1), (11, .val (.int .i64) .n t11_4), (12, .val (.int .i64) .n t12_7), (40, .val (.bool) .n (t6_9.2.2.1 != (0 : Int)))]) (by subst hA; rfl) ?_
              clear hM hA M A
              refine tr_cond rfl (fun hc => ?_) (fun hc => ?_)
              · replace H := if_t H hc
                refine tr_keep [3, 4, 10, 11, 12] (σ' := mkSl 87 0 [(3, .val (.box (.arr 30 (.int .i64))) (.b .n) t3_5), (4, .val (.box (.arr 30 (.arr 6 (.bool)))) (.b .n) t4_6), (10, .val (.list (.st [.int .i64, .int .i64, .int .i64])) .n t0_1), (11, .val (.int .i64) .n t11_4), (12, .val (.int .i64) .n t12_7)]) rfl ?_
                refine tr_seq ?_
                refine tr_rg hP tabOk hsp fun A hA M hM => ?_
                cbv
                refine hM _ ?_
                refine tr_ret ?_
                have hr := Option.some.inj H
                refine Exists.intro _ (And.intro hr.symm (fun hr => ?_))
                subst hr
                subst hA
                exact rfl
              · replace H := if_f H hc
                refine tr_keep [3, 4, 10, 11, 12] (σ' := mkSl 87 0 [(3, .val (.box (.arr 30 (.int .i64))) (.b .n) t3_5), (4, .val (.box (.arr 30 (.arr 6 (.bool)))) (.b .n) t4_6), (10, .val (.list (.st [.int .i64, .int .i64, .int .i64])) .n t0_1), (11, .val (.int .i64) .n t11_4), (12, .val (.int .i64) .n t12_7)]) rfl ?_
                refine tr_skip ?_
                exact hJ2 (t3_5, t4_6) _ H (by rfl)
            · replace H := if_f H hc
              refine tr_keep [3, 4, 6, 10, 11, 12, 35] (σ' := mkSl 87 0 [(3, .val (.box (.arr 30 (.int .i64))) (.b .n) t3_5), (4, .val (.box (.arr 30 (.arr 6 (.bool)))) (.b .n) t4_6), (6, .val (.box (.st [.int .i64, .int .i64, .int .i64])) (.b .n) t6_9), (10, .val (.list (.st [.int .i64, .int .i64, .int .i64])) .n t0_1), (11, .val (.int .i64) .n t11_4), (12, .val (.int .i64) .n t12_7), (35, .val (.int .i64) .n t6_9.2.1)]) rfl ?_
              refine tr_seq ?_
              refine tr_rg hP tabOk hsp fun A hA M hM => ?_
              cbv
              refine hM _ ?_
              refine tr_keep [3, 4, 6, 10, 11, 12, 35, 41] (σ' := mkSl 87 0 [(3, .val (.box (.arr 30 (.int .i64))) (.b .n) t3_5), (4, .val (.box (.arr 30 (.arr 6 (.bool)))) (.b .n) t4_6), (6, .val (.box (.st [.int .i64, .int .i64, .int .i64])) (.b .n) t6_9), (10, .val (.list (.st [.int .i64, .int .i64, .int .i64])) .n t0_1), (11, .val (.int .i64) .n t11_4), (12, .val (.int .i64) .n t12_7), (35, .val (.int .i64) .n t6_9.2.1), (41, .val (.bool) .n (t6_9.2.1 == (2 : Int)))]) (by subst hA; rfl) ?_
              clear hM hA M A
              refine tr_cond rfl (fun hc => ?_) (fun hc => ?_)
              · replace H := if_t H hc
                refine tr_keep [3, 4, 6, 10, 11, 12, 35] (σ' := mkSl 87 0 [(3, .val (.box (.arr 30 (.int .i64))) (.b .n) t3_5), (4, .val (.box (.arr 30 (.arr 6 (.bool)))) (.b .n) t4_6), (6, .val (.box (.st [.int .i64, .int .i64, .int .i64])) (.b .n) t6_9), (10, .val (.list (.st [.int .i64, .int .i64, .int .i64])) .n t0_1), (11, .val (.int .i64) .n t11_4), (12, .val (.int .i64) .n t12_7), (35, .val (.int .i64) .n t6_9.2.1)]) rfl ?_
                refine tr_seq ?_
                refine tr_seq ?_
                refine tr_rg hP tabOk hsp fun A hA M hM => ?_
                cbv
                obtain ⟨ob1, H⟩ := ck_out H
                refine ⟨by subst hA; exact ob1, hM _ ?_⟩
                refine tr_keep [3, 4, 6, 10, 11, 12, 47] (σ' := mkSl 87 0 [(3, .val (.box (.arr 30 (.int .i64))) (.b .n) t3_5), (4, .val (.box (.arr 30 (.arr 6 (.bool)))) (.b .n) t4_6), (6, .val (.box (.st [.int .i64, .int .i64, .int .i64])) (.b .n) t6_9), (10, .val (.list (.st [.int .i64, .int .i64, .int .i64])) .n t0_1), (11, .val (.int .i64) .n t11_4), (12, .val (.int .i64) .n t12_7), (47, .val (.bool) .n ((t3_5.getD t6_9.2.2.1.toNat (0 : Int)) != (0 : Int)))]) (by subst hA; rfl) ?_
                clear ob1 hM hA M A
                refine tr_cond rfl (fun hc => ?_) (fun hc => ?_)
                · replace H := if_t H hc
                  refine tr_keep [3, 4, 6, 10, 11, 12] (σ' := mkSl 87 0 [(3, .val (.box (.arr 30 (.int .i64))) (.b .n) t3_5), (4, .val (.box (.arr 30 (.arr 6 (.bool)))) (.b .n) t4_6), (6, .val (.box (.st [.int .i64, .int .i64, .int .i64])) (.b .n) t6_9), (10, .val (.list (.st [.int .i64, .int .i64, .int .i64])) .n t0_1), (11, .val (.int .i64) .n t11_4), (12, .val (.int .i64) .n t12_7)]) rfl ?_
                  refine tr_seq ?_
                  refine tr_rg hP tabOk hsp fun A hA M hM => ?_
                  cbv
                  refine hM _ ?_
                  refine tr_ret ?_
                  have hr := Option.some.inj H
                  refine Exists.intro _ (And.intro hr.symm (fun hr => ?_))
                  subst hr
                  subst hA
                  exact rfl
                · replace H := if_f H hc
                  refine tr_keep [3, 4, 6, 10, 11, 12] (σ' := mkSl 87 0 [(3, .val (.box (.arr 30 (.int .i64))) (.b .n) t3_5), (4, .val (.box (.arr 30 (.arr 6 (.bool)))) (.b .n) t4_6), (6, .val (.box (.st [.int .i64, .int .i64, .int .i64])) (.b .n) t6_9), (10, .val (.list (.st [.int .i64, .int .i64, .int .i64])) .n t0_1), (11, .val (.int .i64) .n t11_4), (12, .val (.int .i64) .n t12_7)]) rfl ?_
                  refine tr_skip ?_
                  refine tr_rg hP tabOk hsp fun A hA M hM => ?_
                  cbv
                  obtain ⟨ob1, H⟩ := ck_out H
                  refine ⟨by subst hA; exact ob1, hM _ ?_⟩
                  exact hJ2 (t3_5.set t6_9.2.2.1.toNat (arR .add .i64 t6_9.1 (1 : Int)), t4_6) _ H (by subst hA; rfl)
              · replace H := if_f H hc
                refine tr_keep [3, 4, 6, 10, 11, 12, 35] (σ' := mkSl 87 0 [(3, .val (.box (.arr 30 (.int .i64))) (.b .n) t3_5), (4, .val (.box (.arr 30 (.arr 6 (.bool)))) (.b .n) t4_6), (6, .val (.box (.st [.int .i64, .int .i64, .int .i64])) (.b .n) t6_9), (10, .val (.list (.st [.int .i64, .int .i64, .int .i64])) .n t0_1), (11, .val (.int .i64) .n t11_4), (12, .val (.int .i64) .n t12_7), (35, .val (.int .i64) .n t6_9.2.1)]) rfl ?_
                refine tr_seq ?_
                refine tr_rg hP tabOk hsp fun A hA M hM => ?_
                cbv
                refine hM _ ?_
                refine tr_keep [3, 4, 6, 10, 11, 12, 54] (σ' := mkSl 87 0 [(3, .val (.box (.arr 30 (.int .i64))) (.b .n) t3_5), (4, .val (.box (.arr 30 (.arr 6 (.bool)))) (.b .n) t4_6), (6, .val (.box (.st [.int .i64, .int .i64, .int .i64])) (.b .n) t6_9), (10, .val (.list (.st [.int .i64, .int .i64, .int .i64])) .n t0_1), (11, .val (.int .i64) .n t11_4), (12, .val (.int .i64) .n t12_7), (54, .val (.bool) .n (t6_9.2.1 == (3 : Int)))]) (by subst hA; rfl) ?_
                clear hM hA M A
                refine tr_cond rfl (fun hc => ?_) (fun hc => ?_)
                · replace H := if_t H hc
                  refine tr_keep [3, 4, 6, 10, 11, 12] (σ' := mkSl 87 0 [(3, .val (.box (.arr 30 (.int .i64))) (.b .n) t3_5), (4, .val (.box (.arr 30 (.arr 6 (.bool)))) (.b .n) t4_6), (6, .val (.box (.st [.int .i64, .int .i64, .int .i64])) (.b .n) t6_9), (10, .val (.list (.st [.int .i64, .int .i64, .int .i64])) .n t0_1), (11, .val (.int .i64) .n t11_4), (12, .val (.int .i64) .n t12_7)]) rfl ?_
                  refine tr_seq ?_
                  refine tr_seq ?_
                  refine tr_rg hP tabOk hsp fun A hA M hM => ?_
                  cbv
                  obtain ⟨ob1, H⟩ := ck_out H
                  obtain ⟨ob2, H⟩ := ck_out H
                  obtain ⟨ob3, H⟩ := ck_out H
                  obtain ⟨ob4, H⟩ := ck_out H
                  refine ⟨by subst hA; exact ob1, by subst hA; exact ob2, by subst hA; exact ob3, by subst hA; exact ob4, hM _ ?_⟩
                  refine tr_keep [3, 4, 6, 10, 11, 12, 79] (σ' := mkSl 87 0 [(3, .val (.box (.arr 30 (.int .i64))) (.b .n) t3_5), (4, .val (.box (.arr 30 (.arr 6 (.bool)))) (.b .n) t4_6), (6, .val (.box (.st [.int .i64, .int .i64, .int .i64])) (.b .n) t6_9), (10, .val (.list (.st [.int .i64, .int .i64, .int .i64])) .n t0_1), (11, .val (.int .i64) .n t11_4), (12, .val (.int .i64) .n t12_7), (79, .val (.bool) .n ((((t3_5.getD t6_9.2.2.1.toNat (0 : Int)) == (0 : Int)) || ((t3_5.getD t6_9.2.2.1.toNat (0 : Int)) == (arR .add .i64 t6_9.1 (1 : Int)))) || ((t4_6.getD t6_9.2.2.1.toNat (List.replicate 6 false)).getD t6_9.1.toNat false)))]) (by subst hA; rfl) ?_
                  clear ob4 ob3 ob2 ob1 hM hA M A
                  refine tr_cond rfl (fun hc => ?_) (fun hc => ?_)
                  · replace H := if_t H hc
                    refine tr_keep [3, 4, 6, 10, 11, 12] (σ' := mkSl 87 0 [(3, .val (.box (.arr 30 (.int .i64))) (.b .n) t3_5), (4, .val (.box (.arr 30 (.arr 6 (.bool)))) (.b .n) t4_6), (6, .val (.box (.st [.int .i64, .int .i64, .int .i64])) (.b .n) t6_9), (10, .val (.list (.st [.int .i64, .int .i64, .int .i64])) .n t0_1), (11, .val (.int .i64) .n t11_4), (12, .val (.int .i64) .n t12_7)]) rfl ?_
                    refine tr_seq ?_
                    refine tr_rg hP tabOk hsp fun A hA M hM => ?_
                    cbv
                    refine hM _ ?_
                    refine tr_ret ?_
                    have hr := Option.some.inj H
                    refine Exists.intro _ (And.intro hr.symm (fun hr => ?_))
                    subst hr
                    subst hA
                    exact rfl
                  · replace H := if_f H hc
                    refine tr_keep [3, 4, 6, 10, 11, 12] (σ' := mkSl 87 0 [(3, .val (.box (.arr 30 (.int .i64))) (.b .n) t3_5), (4, .val (.box (.arr 30 (.arr 6 (.bool)))) (.b .n) t4_6), (6, .val (.box (.st [.int .i64, .int .i64, .int .i64])) (.b .n) t6_9), (10, .val (.list (.st [.int .i64, .int .i64, .int .i64])) .n t0_1), (11, .val (.int .i64) .n t11_4), (12, .val (.int .i64) .n t12_7)]) rfl ?_
                    refine tr_skip ?_
                    refine tr_rg hP tabOk hsp fun A hA M hM => ?_
                    cbv
                    obtain ⟨ob1, H⟩ := ck_out H
                    obtain ⟨ob2, H⟩ := ck_out H
                    refine ⟨by subst hA; exact ob1, by subst hA; exact ob2, hM _ ?_⟩
                    exact hJ2 (t3_5, t4_6.set t6_9.2.2.1.toNat ((t4_6.getD t6_9.2.2.1.toNat (List.replicate 6 false)).set t6_9.1.toNat true)) _ H (by subst hA; rfl)
                · replace H := if_f H hc
                  refine tr_keep [3, 4, 6, 10, 11, 12] (σ' := mkSl 87 0 [(3, .val (.box (.arr 30 (.int .i64))) (.b .n) t3_5), (4, .val (.box (.arr 30 (.arr 6 (.bool)))) (.b .n) t4_6), (6, .val (.box (.st [.int .i64, .int .i64, .int .i64])) (.b .n) t6_9), (10, .val (.list (.st [.int .i64, .int .i64, .int .i64])) .n t0_1), (11, .val (.int .i64) .n t11_4), (12, .val (.int .i64) .n t12_7)]) rfl ?_
                  refine tr_seq ?_
                  refine tr_rg hP tabOk hsp fun A hA M hM => ?_
                  cbv
                  refine hM _ ?_
                  refine tr_ret ?_
                  have hr := Option.some.inj H
                  refine Exists.intro _ (And.intro hr.symm (fun hr => ?_))
                  subst hr
                  subst hA
                  exact rfl
      · replace H := if_f H hc
        refine tr_keep [3, 4, 10, 11, 12] (σ' := mkSl 87 0 [(3, .val (.box (.arr 30 (.int .i64))) (.b .n) t3_5), (4, .val (.box (.arr 30 (.arr 6 (.bool)))) (.b .n) t4_6), (10, .val (.list (.st [.int .i64, .int .i64, .int .i64])) .n t0_1), (11, .val (.int .i64) .n t11_4), (12, .val (.int .i64) .n t12_7)]) rfl ?_
        refine tr_exit ?_
        exact And.intro rfl (Exists.intro _ (And.intro (Option.some.inj H).symm (by rfl)))
theorem stamp_Check_sp : ∃ (pg : PT.denL [.list (.st [.int .i64, .int .i64, .int .i64])] → Prop) (fg : PT.denL [.list (.st [.int .i64, .int .i64, .int .i64])] → PT.denL [.int .i64]), SpecRuns Try.prog 14 ⟨[.list (.st [.int .i64, .int .i64, .int .i64])], [.v], [.int .i64], [.n], pg, fg⟩ ∧ (∀ {a1 : List ((Int × Int × Int × Unit))} {y : Int}, stamp_Check a1 = some y → pg (a1, ()) ∧ y = (fg (a1, ())).1) ∧ (∀ {a1 : List ((Int × Int × Int × Unit))}, (stamp_Check a1).isSome = true → pg (a1, ())) ∧ ∀ {a1 : List ((Int × Int × Int × Unit))}, (stamp_Check a1).getD (0 : Int) = (fg (a1, ())).1 := by
  obtain ⟨pg, fg, h, hc, hi, hd⟩ := spec_hide stamp_Check_runs
  refine ⟨pg, fg, h, ?_, ?_, ?_⟩
  · intro a1 y e
    obtain ⟨h1, h2⟩ := hc (a1, ()) (y, ()) (congrArg (Option.map fun r => (r, ())) e)
    exact ⟨h1, by first | (rw [h2]; done) | (rw [h2]; rfl)⟩
  · intro a1
    intro e
    exact hi (a1, ()) (map_isSome e)
  · intro a1
    rw [hd (a1, ())]
    cases stamp_Check a1 <;> rfl
end Go.Proofs.Ytdahfpfkjljojaa.Ct
