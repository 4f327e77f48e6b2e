/- Functions of the program as functions that may fail, and that the code computes them (printed). Each theorem bears its conditions itself. -/
import Derived.Test.YtaachifkgcdeoaaLtDefs
import Derived.Test.YtaachifkgcdeoaaLtTab
open Go Go.Proofs.Ytaachifkgcdeoaa.Sy Go.Proofs
set_option maxHeartbeats 4000000
set_option maxRecDepth 100000
set_option cbv.maxSteps 10000000
set_option linter.unusedVariables false
set_option linter.unusedSimpArgs false
namespace Go.Proofs.Ytaachifkgcdeoaa.Lt
theorem lat_Check_runs : SpecRuns Try.prog 9 (oSpec [.list (.int .u16)] [.v] [.int .i64] [.n] fun x => (lat_Check x.1).map fun r => (r, ())) := by
  have hsp : SpecsOk Try.prog [] := specsOk_nil
  refine runs_of_o tabOk Try.func9 rfl (Nat.le_of_ble_eq_true rfl) rfl ?_
  rintro E ⟨(t0_1 : List Int), ⟨⟩⟩ y hP H hw
  obtain ⟨z, H1, rfl⟩ := map_out H
  replace H : lat_Check t0_1 = some z := H1
  clear hw H1
  unfold lat_Check at H
  refine tr_keep [0] (σ' := mkSl 76 0 [(0, .val (.list (.int .u16)) .n t0_1)]) rfl ?_
  refine tr_seq ?_
  refine tr_rg hP tabOk hsp fun A hA M hM => ?_
  cbv
  refine hM _ ?_
  refine tr_seq ?_
  refine tr_seq ?_
  refine tr_keep [0] (σ' := mkSl 76 0 [(0, .val (.list (.int .u16)) .n t0_1)]) (by subst hA; rfl) ?_
  clear hM hA M A
  refine tr_rg hP tabOk hsp fun A hA M hM => ?_
  cbv
  refine hM _ ?_
  refine tr_keep [0, 17] (σ' := mkSl 76 0 [(0, .val (.list (.int .u16)) .n t0_1), (17, .val (.bool) .n ((decide ((t0_1.length : Int) < (1 : Int))) || (decide ((t0_1.length : Int) > (4096 : Int)))))]) (by subst hA; rfl) ?_
  clear hM hA M A
  refine tr_cond rfl (fun hc => ?_) (fun hc => ?_)
  · replace H := if_t H hc
    refine tr_keep [0] (σ' := mkSl 76 0 [(0, .val (.list (.int .u16)) .n t0_1)]) rfl ?_
    refine tr_seq ?_
    refine tr_rg hP tabOk hsp fun A hA M hM => ?_
    cbv
    refine hM _ ?_
    refine tr_ret ?_
    have hr := Option.some.inj H
    subst hr
    subst hA
    exact rfl
  · replace H := if_f H hc
    refine tr_keep [0] (σ' := mkSl 76 0 [(0, .val (.list (.int .u16)) .n t0_1)]) rfl ?_
    refine tr_skip ?_
    refine tr_seq ?_
    refine tr_seq ?_
    refine tr_rg hP tabOk hsp fun A hA M hM => ?_
    cbv
    obtain ⟨ob1, H⟩ := ck_out H
    refine ⟨by subst hA; exact ob1, hM _ ?_⟩
    refine tr_keep [0, 21] (σ' := mkSl 76 0 [(0, .val (.list (.int .u16)) .n t0_1), (21, .val (.bool) .n ((t0_1.getD 0 (0 : Int)) != (0 : Int)))]) (by subst hA; rfl) ?_
    clear ob1 hM hA M A
    refine tr_cond rfl (fun hc => ?_) (fun hc => ?_)
    · replace H := if_t H hc
      refine tr_keep [0] (σ' := mkSl 76 0 [(0, .val (.list (.int .u16)) .n t0_1)]) rfl ?_
      refine tr_seq ?_
      refine tr_rg hP tabOk hsp fun A hA M hM => ?_
      cbv
      refine hM _ ?_
      refine tr_ret ?_
      have hr := Option.some.inj H
      subst hr
      subst hA
      exact rfl
    · replace H := if_f H hc
      refine tr_keep [0] (σ' := mkSl 76 0 [(0, .val (.list (.int .u16)) .n t0_1)]) rfl ?_
      refine tr_skip ?_
      refine tr_seq ?_
      refine tr_rg hP tabOk hsp fun A hA M hM => ?_
      cbv
      refine hM _ ?_
      refine tr_seq ?_
      refine tr_seq ?_
      refine tr_keep [0, 3] (σ' := mkSl 76 0 [(0, .val (.list (.int .u16)) .n t0_1), (3, .mp (.int .u16) (.int .i64) ([] : List (Int × Int)))]) (by subst hA; rfl) ?_
      clear hM hA M A
      refine tr_rg hP tabOk hsp fun A hA M hM => ?_
      cbv
      refine hM _ ?_
      refine tr_block ?_
      refine tr_keepL [0, 3, 23, 24, 25] (fun t24_2 : Int => mkSl 76 0 [(0, .val (.list (.int .u16)) .n t0_1), (3, .mp (.int .u16) (.int .i64) ([] : List (Int × Int))), (23, .val (.list (.int .u16)) .n t0_1), (24, .val (.int .i64) .n t24_2), (25, .val (.int .i64) .n (0 : Int))]) H (by subst hA; rfl) (fun t24_2 H => ?_)
      clear hM hA M A
      obtain ⟨q, hq, Hl, Hr⟩ := bindE_out H
      refine tr_loopE 0 (fun x : List (Int × Int) × Int => lat_Check_L1 t0_1 t24_2 x.1 x.2) (fun x : List (Int × Int) × Int => mkSl 76 0 [(0, .val (.list (.int .u16)) .n t0_1), (3, .mp (.int .u16) (.int .i64) x.1), (23, .val (.list (.int .u16)) .n t0_1), (24, .val (.int .i64) .n t24_2), (25, .val (.int .i64) .n x.2)]) [0, 3, 23, 24, 25] (fun q_6 : List (Int × Int) => mkSl 76 0 [(0, .val (.list (.int .u16)) .n t0_1), (3, .mp (.int .u16) (.int .i64) q_6)]) [0, 3] hq rfl Hr (fun q_6 hl σ' h => ?_) (fun x r1 H => ?_)
      · replace H := Hl q_6 hl
        refine tr_keep [0, 3] h ?_
        refine tr_seq ?_
        refine tr_seq ?_
        refine tr_rg hP tabOk hsp fun A hA M hM => ?_
        cbv
        refine hM _ ?_
        refine tr_keep [0, 3, 49] (σ' := mkSl 76 0 [(0, .val (.list (.int .u16)) .n t0_1), (3, .mp (.int .u16) (.int .i64) q_6), (49, .val (.bool) .n (decide ((t0_1.length : Int) > (300 : Int))))]) (by subst hA; rfl) ?_
        clear hM hA M A
        refine tr_cond rfl (fun hc => ?_) (fun hc => ?_)
        · replace H := if_t H hc
          refine tr_keep [0, 3] (σ' := mkSl 76 0 [(0, .val (.list (.int .u16)) .n t0_1), (3, .mp (.int .u16) (.int .i64) q_6)]) rfl ?_
          refine tr_seq ?_
          refine tr_rg hP tabOk hsp fun A hA M hM => ?_
          cbv
          refine hM _ ?_
          refine tr_ret ?_
          have hr := Option.some.inj H
          subst hr
          subst hA
          exact rfl
        · replace H := if_f H hc
          refine tr_keep [0, 3] (σ' := mkSl 76 0 [(0, .val (.list (.int .u16)) .n t0_1), (3, .mp (.int .u16) (.int .i64) q_6)]) rfl ?_
          refine tr_skip ?_
          refine tr_seq ?_
          refine tr_seq ?_
          refine tr_rg hP tabOk hsp fun A hA M hM => ?_
          cbv
          refine hM _ ?_
          refine tr_block ?_
          refine tr_keepL [0, 3, 50, 51, 52] (fun t51_9 : Int => mkSl 76 0 [(0, .val (.list (.int .u16)) .n t0_1), (3, .mp (.int .u16) (.int .i64) q_6), (50, .val (.list (.int .u16)) .n t0_1), (51, .val (.int .i64) .n t51_9), (52, .val (.int .i64) .n (0 : Int))]) H (by subst hA; rfl) (fun t51_9 H => ?_)
          clear hM hA M A
          obtain ⟨q, hq, Hl, Hr⟩ := bindE_out H
          refine tr_loopE 2 (fun x : Int => lat_Check_L2 t0_1 q_6 t51_9 x) (fun x : Int => mkSl 76 0 [(0, .val (.list (.int .u16)) .n t0_1), (3, .mp (.int .u16) (.int .i64) q_6), (50, .val (.list (.int .u16)) .n t0_1), (51, .val (.int .i64) .n t51_9), (52, .val (.int .i64) .n x)]) [0, 3, 50, 51, 52] (fun q_11 : Unit => mkSl 76 0 []) [] hq rfl Hr (fun q_11 hl σ' h => ?_) (fun x r2 H => ?_)
          · replace H := Hl q_11 hl
            refine tr_keep [] h ?_
            refine tr_seq ?_
            refine tr_rg hP tabOk hsp fun A hA M hM => ?_
            cbv
            refine hM _ ?_
            refine tr_ret ?_
            have hr := Option.some.inj H
            subst hr
            subst hA
            exact rfl
          · obtain ⟨t52_10, rfl⟩ : ∃ v, v = x := ⟨x, rfl⟩
            replace H : lat_Check_L2 t0_1 q_6 t51_9 t52_10 = some r2 := H
            unfold lat_Check_L2 at H
            refine tr_seq ?_
            refine tr_rg hP tabOk hsp fun A hA M hM => ?_
            cbv
            refine hM _ ?_
            refine tr_seq ?_
            refine tr_keep [0, 3, 50, 51, 52, 53] (σ' := mkSl 76 0 [(0, .val (.list (.int .u16)) .n t0_1), (3, .mp (.int .u16) (.int .i64) q_6), (50, .val (.list (.int .u16)) .n t0_1), (51, .val (.int .i64) .n t51_9), (52, .val (.int .i64) .n t52_10), (53, .val (.bool) .n (decide (t52_10 < t51_9)))]) (by subst hA; rfl) ?_
            clear hM hA M A
            refine tr_cond rfl (fun hc => ?_) (fun hc => ?_)
            · replace H := if_t H hc
              refine tr_keep [0, 3, 50, 51, 52] (σ' := mkSl 76 0 [(0, .val (.list (.int .u16)) .n t0_1), (3, .mp (.int .u16) (.int .i64) q_6), (50, .val (.list (.int .u16)) .n t0_1), (51, .val (.int .i64) .n t51_9), (52, .val (.int .i64) .n t52_10)]) rfl ?_
              refine tr_skip ?_
              refine tr_seq ?_
              refine tr_block ?_
              refine tr_seq ?_
              refine tr_rg hP tabOk hsp fun A hA M hM => ?_
              cbv
              obtain ⟨ob1, H⟩ := ck_out H
              refine ⟨by subst hA; exact ob1, hM _ ?_⟩
              refine tr_seq ?_
              refine tr_keepL [0, 3, 7, 50, 51, 52] (fun t7_12 : Int => mkSl 76 0 [(0, .val (.list (.int .u16)) .n t0_1), (3, .mp (.int .u16) (.int .i64) q_6), (7, .val (.int .u16) .n t7_12), (50, .val (.list (.int .u16)) .n t0_1), (51, .val (.int .i64) .n t51_9), (52, .val (.int .i64) .n t52_10)]) H (by subst hA; rfl) (fun t7_12 H => ?_)
              clear ob1 hM hA M A
              refine tr_rg hP tabOk hsp fun A hA M hM => ?_
              cbv
              refine hM _ ?_
              refine tr_block ?_
              refine tr_keepL [0, 3, 7, 50, 51, 52, 56, 57, 58] (fun t57_13 : Int => mkSl 76 0 [(0, .val (.list (.int .u16)) .n t0_1), (3, .mp (.int .u16) (.int .i64) q_6), (7, .val (.int .u16) .n t7_12), (50, .val (.list (.int .u16)) .n t0_1), (51, .val (.int .i64) .n t51_9), (52, .val (.int .i64) .n t52_10), (56, .val (.list (.int .u16)) .n t0_1), (57, .val (.int .i64) .n t57_13), (58, .val (.int .i64) .n (0 : Int))]) H (by subst hA; rfl) (fun t57_13 H => ?_)
              clear hM hA M A
              obtain ⟨q, hq, Hl, Hr⟩ := bindE_out H
              refine tr_loopE 4 (fun x : Int => lat_Check_L3 t0_1 q_6 t7_12 t57_13 x) (fun x : Int => mkSl 76 0 [(0, .val (.list (.int .u16)) .n t0_1), (3, .mp (.int .u16) (.int .i64) q_6), (7, .val (.int .u16) .n t7_12), (50, .val (.list (.int .u16)) .n t0_1), (51, .val (.int .i64) .n t51_9), (52, .val (.int .i64) .n t52_10), (56, .val (.list (.int .u16)) .n t0_1), (57, .val (.int .i64) .n t57_13), (58, .val (.int .i64) .n x)]) [0, 3, 7, 50, 51, 52, 56, 57, 58] (fun q_15 : Unit => mkSl 76 0 [(0, .val (.list (.int .u16)) .n t0_1), (3, .mp (.int .u16) (.int .i64) q_6), (50, .val (.list (.int .u16)) .n t0_1), (51, .val (.int .i64) .n t51_9), (52, .val (.int .i64) .n t52_10)]) [0, 3, 50, 51, 52] hq rfl Hr (fun q_15 hl σ' h => ?_) (fun x r3 H => ?_)
              · replace H := Hl q_15 hl
                refine tr_keep [0, 3, 50, 51, 52] h ?_
                refine tr_rg hP tabOk hsp fun A hA M hM => ?_
                cbv
                refine hM _ ?_
                exact Exists.intro _ (And.intro (Option.some.inj H).symm (by subst hA; rfl))
              · obtain ⟨t58_14, rfl⟩ : ∃ v, v = x := ⟨x, rfl⟩
                replace H : lat_Check_L3 t0_1 q_6 t7_12 t57_13 t58_14 = some r3 := H
                unfold lat_Check_L3 at H
                refine tr_seq ?_
                refine tr_rg hP tabOk hsp fun A hA M hM => ?_
                cbv
                refine hM _ ?_
                refine tr_seq ?_
                refine tr_keep [0, 3, 7, 50, 51, 52, 56, 57, 58, 59] (σ' := mkSl 76 0 [(0, .val (.list (.int .u16)) .n t0_1), (3, .mp (.int .u16) (.int .i64) q_6), (7, .val (.int .u16) .n t7_12), (50, .val (.list (.int .u16)) .n t0_1), (51, .val (.int .i64) .n t51_9), (52, .val (.int .i64) .n t52_10), (56, .val (.list (.int .u16)) .n t0_1), (57, .val (.int .i64) .n t57_13), (58, .val (.int .i64) .n t58_14), (59, .val (.bool) .n (decide (t58_14 < t57_13)))]) (by subst hA; rfl) ?_
                clear hM hA M A
                refine tr_cond rfl (fun hc => ?_) (fun hc => ?_)
                · replace H := if_t H hc
                  refine tr_keep [0, 3, 7, 50, 51, 52, 56, 57, 58] (σ' := mkSl 76 0 [(0, .val (.list (.int .u16)) .n t0_1), (3, .mp (.int .u16) (.int .i64) q_6), (7, .val (.int .u16) .n t7_12), (50, .val (.list (.int .u16)) .n t0_1), (51, .val (.int .i64) .n t51_9), (52, .val (.int .i64) .n t52_10), (56, .val (.list (.int .u16)) .n t0_1), (57, .val (.int .i64) .n t57_13), (58, .val (.int .i64) .n t58_14)]) rfl ?_
                  refine tr_skip ?_
                  refine tr_seq ?_
                  refine tr_block ?_
                  refine tr_seq ?_
                  refine tr_rg hP tabOk hsp fun A hA M hM => ?_
                  cbv
                  obtain ⟨ob1, H⟩ := ck_out H
                  refine ⟨by subst hA; exact ob1, hM _ ?_⟩
                  refine tr_seq ?_
                  refine tr_keepL [0, 3, 7, 9, 50, 51, 52, 56, 57, 58] (fun t9_16 : Int => mkSl 76 0 [(0, .val (.list (.int .u16)) .n t0_1), (3, .mp (.int .u16) (.int .i64) q_6), (7, .val (.int .u16) .n t7_12), (9, .val (.int .u16) .n t9_16), (50, .val (.list (.int .u16)) .n t0_1), (51, .val (.int .i64) .n t51_9), (52, .val (.int .i64) .n t52_10), (56, .val (.list (.int .u16)) .n t0_1), (57, .val (.int .i64) .n t57_13), (58, .val (.int .i64) .n t58_14)]) H (by subst hA; rfl) (fun t9_16 H => ?_)
                  clear ob1 hM hA M A
                  refine tr_rg hP tabOk hsp fun A hA M hM => ?_
                  cbv
                  refine hM _ ?_
                  refine tr_keep [0, 3, 7, 50, 51, 52, 56, 57, 58, 73] (σ' := mkSl 76 0 [(0, .val (.list (.int .u16)) .n t0_1), (3, .mp (.int .u16) (.int .i64) q_6), (7, .val (.int .u16) .n t7_12), (50, .val (.list (.int .u16)) .n t0_1), (51, .val (.int .i64) .n t51_9), (52, .val (.int .i64) .n t52_10), (56, .val (.list (.int .u16)) .n t0_1), (57, .val (.int .i64) .n t57_13), (58, .val (.int .i64) .n t58_14), (73, .val (.bool) .n (decide ((arR .add .i64 (mgetu16I q_6 (arR .or .u16 t7_12 t9_16)) (mgetu16I q_6 (arR .and .u16 t7_12 t9_16))) < (2 : Int))))]) (by subst hA; rfl) ?_
                  clear hM hA M A
                  refine tr_cond rfl (fun hc => ?_) (fun hc => ?_)
                  · replace H := if_t H hc
                    refine tr_keep [0, 3, 7, 50, 51, 52, 56, 57, 58] (σ' := mkSl 76 0 [(0, .val (.list (.int .u16)) .n t0_1), (3, .mp (.int .u16) (.int .i64) q_6), (7, .val (.int .u16) .n t7_12), (50, .val (.list (.int .u16)) .n t0_1), (51, .val (.int .i64) .n t51_9), (52, .val (.int .i64) .n t52_10), (56, .val (.list (.int .u16)) .n t0_1), (57, .val (.int .i64) .n t57_13), (58, .val (.int .i64) .n t58_14)]) rfl ?_
                    refine tr_seq ?_
                    refine tr_rg hP tabOk hsp fun A hA M hM => ?_
                    cbv
                    refine hM _ ?_
                    refine tr_ret ?_
                    have hr := Option.some.inj H
                    refine Exists.intro _ (And.intro hr.symm (fun hr => ?_))
                    refine Exists.intro _ (And.intro hr.symm (fun hr => ?_))
                    subst hr
                    subst hA
                    exact rfl
                  · replace H := if_f H hc
                    refine tr_keep [0, 3, 7, 50, 51, 52, 56, 57, 58] (σ' := mkSl 76 0 [(0, .val (.list (.int .u16)) .n t0_1), (3, .mp (.int .u16) (.int .i64) q_6), (7, .val (.int .u16) .n t7_12), (50, .val (.list (.int .u16)) .n t0_1), (51, .val (.int .i64) .n t51_9), (52, .val (.int .i64) .n t52_10), (56, .val (.list (.int .u16)) .n t0_1), (57, .val (.int .i64) .n t57_13), (58, .val (.int .i64) .n t58_14)]) rfl ?_
                    refine tr_skip ?_
                    refine tr_rg hP tabOk hsp fun A hA M hM => ?_
                    cbv
                    refine hM _ ?_
                    exact Exists.intro _ (And.intro (Option.some.inj H).symm (by subst hA; rfl))
                · replace H := if_f H hc
                  refine tr_keep [0, 3, 7, 50, 51, 52, 56, 57, 58] (σ' := mkSl 76 0 [(0, .val (.list (.int .u16)) .n t0_1), (3, .mp (.int .u16) (.int .i64) q_6), (7, .val (.int .u16) .n t7_12), (50, .val (.list (.int .u16)) .n t0_1), (51, .val (.int .i64) .n t51_9), (52, .val (.int .i64) .n t52_10), (56, .val (.list (.int .u16)) .n t0_1), (57, .val (.int .i64) .n t57_13), (58, .val (.int .i64) .n t58_14)]) rfl ?_
                  refine tr_exit ?_
                  exact And.intro rfl (Exists.intro _ (And.intro (Option.some.inj H).symm (by rfl)))
            · replace H := if_f H hc
              refine tr_keep [0, 3, 50, 51, 52] (σ' := mkSl 76 0 [(0, .val (.list (.int .u16)) .n t0_1), (3, .mp (.int .u16) (.int .i64) q_6), (50, .val (.list (.int .u16)) .n t0_1), (51, .val (.int .i64) .n t51_9), (52, .val (.int .i64) .n t52_10)]) rfl ?_
              refine tr_exit ?_
              exact And.intro rfl (Exists.intro _ (And.intro (Option.some.inj H).symm (by rfl)))
      · obtain ⟨t3_3, t25_4⟩ := x
        replace H : lat_Check_L1 t0_1 t24_2 t3_3 t25_4 = some r1 := H
        unfold lat_Check_L1 at H
        refine tr_seq ?_
        refine tr_rg hP tabOk hsp fun A hA M hM => ?_
        cbv
        refine hM _ ?_
        refine tr_seq ?_
        refine tr_keep [0, 3, 23, 24, 25, 26] (σ' := mkSl 76 0 [(0, .val (.list (.int .u16)) .n t0_1), (3, .mp (.int .u16) (.int .i64) t3_3), (23, .val (.list (.int .u16)) .n t0_1), (24, .val (.int .i64) .n t24_2), (25, .val (.int .i64) .n t25_4), (26, .val (.bool) .n (decide (t25_4 < t24_2)))]) (by subst hA; rfl) ?_
        clear hM hA M A
        refine tr_cond rfl (fun hc => ?_) (fun hc => ?_)
        · replace H := if_t H hc
          refine tr_keep [0, 3, 23, 24, 25] (σ' := mkSl 76 0 [(0, .val (.list (.int .u16)) .n t0_1), (3, .mp (.int .u16) (.int .i64) t3_3), (23, .val (.list (.int .u16)) .n t0_1), (24, .val (.int .i64) .n t24_2), (25, .val (.int .i64) .n t25_4)]) rfl ?_
          refine tr_skip ?_
          refine tr_seq ?_
          refine tr_block ?_
          refine tr_seq ?_
          refine tr_rg hP tabOk hsp fun A hA M hM => ?_
          cbv
          obtain ⟨ob1, H⟩ := ck_out H
          refine ⟨by subst hA; exact ob1, hM _ ?_⟩
          refine tr_seq ?_
          refine tr_seq ?_
          refine tr_keepL [0, 3, 4, 5, 23, 24, 25] (fun t5_7 : Int => mkSl 76 0 [(0, .val (.list (.int .u16)) .n t0_1), (3, .mp (.int .u16) (.int .i64) t3_3), (4, .val (.int .i64) .n t25_4), (5, .val (.int .u16) .n t5_7), (23, .val (.list (.int .u16)) .n t0_1), (24, .val (.int .i64) .n t24_2), (25, .val (.int .i64) .n t25_4)]) H (by subst hA; rfl) (fun t5_7 H => ?_)
          clear ob1 hM hA M A
          refine tr_rg hP tabOk hsp fun A hA M hM => ?_
          cbv
          obtain ⟨ob1, H⟩ := ck_out H
          refine ⟨by subst hA; exact ob1, hM _ ?_⟩
          refine tr_keep [0, 3, 4, 5, 23, 24, 25, 32] (σ' := mkSl 76 0 [(0, .val (.list (.int .u16)) .n t0_1), (3, .mp (.int .u16) (.int .i64) t3_3), (4, .val (.int .i64) .n t25_4), (5, .val (.int .u16) .n t5_7), (23, .val (.list (.int .u16)) .n t0_1), (24, .val (.int .i64) .n t24_2), (25, .val (.int .i64) .n t25_4), (32, .val (.bool) .n ((arR .shr .u16 t5_7 (12 : Int)) != (0 : Int)))]) (by subst hA; rfl) ?_
          clear ob1 hM hA M A
          refine tr_cond rfl (fun hc => ?_) (fun hc => ?_)
          · replace H := if_t H hc
            refine tr_keep [0, 3, 4, 5, 23, 24, 25] (σ' := mkSl 76 0 [(0, .val (.list (.int .u16)) .n t0_1), (3, .mp (.int .u16) (.int .i64) t3_3), (4, .val (.int .i64) .n t25_4), (5, .val (.int .u16) .n t5_7), (23, .val (.list (.int .u16)) .n t0_1), (24, .val (.int .i64) .n t24_2), (25, .val (.int .i64) .n t25_4)]) rfl ?_
            refine tr_seq ?_
            refine tr_rg hP tabOk hsp fun A hA M hM => ?_
            cbv
            refine hM _ ?_
            refine tr_ret ?_
            have hr := Option.some.inj H
            refine Exists.intro _ (And.intro hr.symm (fun hr => ?_))
            subst hr
            subst hA
            exact rfl
          · replace H := if_f H hc
            refine tr_keep [0, 3, 4, 5, 23, 24, 25] (σ' := mkSl 76 0 [(0, .val (.list (.int .u16)) .n t0_1), (3, .mp (.int .u16) (.int .i64) t3_3), (4, .val (.int .i64) .n t25_4), (5, .val (.int .u16) .n t5_7), (23, .val (.list (.int .u16)) .n t0_1), (24, .val (.int .i64) .n t24_2), (25, .val (.int .i64) .n t25_4)]) rfl ?_
            refine tr_skip ?_
            refine tr_seq ?_
            refine tr_seq ?_
            refine tr_rg hP tabOk hsp fun A hA M hM => ?_
            cbv
            obtain ⟨ob1, H⟩ := ck_out H
            refine ⟨by subst hA; exact ob1, hM _ ?_⟩
            refine tr_keep [0, 3, 5, 23, 24, 25, 43] (σ' := mkSl 76 0 [(0, .val (.list (.int .u16)) .n t0_1), (3, .mp (.int .u16) (.int .i64) t3_3), (5, .val (.int .u16) .n t5_7), (23, .val (.list (.int .u16)) .n t0_1), (24, .val (.int .i64) .n t24_2), (25, .val (.int .i64) .n t25_4), (43, .val (.bool) .n ((decide (t25_4 > (0 : Int))) && (decide (t5_7 ≤ (t0_1.getD (arR .sub .i64 t25_4 (1 : Int)).toNat (0 : Int))))))]) (by subst hA; rfl) ?_
            clear ob1 hM hA M A
            refine tr_cond rfl (fun hc => ?_) (fun hc => ?_)
            · replace H := if_t H hc
              refine tr_keep [0, 3, 5, 23, 24, 25] (σ' := mkSl 76 0 [(0, .val (.list (.int .u16)) .n t0_1), (3, .mp (.int .u16) (.int .i64) t3_3), (5, .val (.int .u16) .n t5_7), (23, .val (.list (.int .u16)) .n t0_1), (24, .val (.int .i64) .n t24_2), (25, .val (.int .i64) .n t25_4)]) rfl ?_
              refine tr_seq ?_
              refine tr_rg hP tabOk hsp fun A hA M hM => ?_
              cbv
              refine hM _ ?_
              refine tr_ret ?_
              have hr := Option.some.inj H
              refine Exists.intro _ (And.intro hr.symm (fun hr => ?_))
              subst hr
              subst hA
              exact rfl
            · replace H := if_f H hc
              refine tr_keep [0, 3, 5, 23, 24, 25] (σ' := mkSl 76 0 [(0, .val (.list (.int .u16)) .n t0_1), (3, .mp (.int .u16) (.int .i64) t3_3), (5, .val (.int .u16) .n t5_7), (23, .val (.list (.int .u16)) .n t0_1), (24, .val (.int .i64) .n t24_2), (25, .val (.int .i64) .n t25_4)]) rfl ?_
              refine tr_skip ?_
              refine tr_rg hP tabOk hsp fun A hA M hM => ?_
              cbv
              refine hM _ ?_
              refine tr_keepL [0, 3, 23, 24, 25] (fun t3_8 : List (Int × Int) => mkSl 76 0 [(0, .val (.list (.int .u16)) .n t0_1), (3, .mp (.int .u16) (.int .i64) t3_8), (23, .val (.list (.int .u16)) .n t0_1), (24, .val (.int .i64) .n t24_2), (25, .val (.int .i64) .n t25_4)]) H (by subst hA; rfl) (fun t3_8 H => ?_)
              clear hM hA M A
              refine tr_rg hP tabOk hsp fun A hA M hM => ?_
              cbv
              refine hM _ ?_
              exact Exists.intro _ (And.intro (Option.some.inj H).symm (by subst hA; rfl))
        · replace H := if_f H hc
          refine tr_keep [0, 3, 23, 24, 25] (σ' := mkSl 76 0 [(0, .val (.list (.int .u16)) .n t0_1), (3, .mp (.int .u16) (.int .i64) t3_3), (23, .val (.list (.int .u16)) .n t0_1), (24, .val (.int .i64) .n t24_2), (25, .val (.int .i64) .n t25_4)]) rfl ?_
          refine tr_exit ?_
          exact And.intro rfl (Exists.intro _ (And.intro (Option.some.inj H).symm (by rfl)))
theorem lat_Check_sp : ∃ (pg : PT.denL [.list (.int .u16)] → Prop) (fg : PT.denL [.list (.int .u16)] → PT.denL [.int .i64]), SpecRuns Try.prog 9 ⟨[.list (.int .u16)], [.v], [.int .i64], [.n], pg, fg⟩ ∧ (∀ {a1 : List Int} {y : Int}, lat_Check a1 = some y → pg (a1, ()) ∧ y = (fg (a1, ())).1) ∧ (∀ {a1 : List Int}, (lat_Check a1).isSome = true → pg (a1, ())) ∧ ∀ {a1 : List Int}, (lat_Check a1).getD (0 : Int) = (fg (a1, ())).1 := by
  obtain ⟨pg, fg, h, hc, hi, hd⟩ := spec_hide lat_Check_runs
  refine ⟨pg, fg, h, ?_, ?_, ?_⟩
  · intro a1 y e
    obtain ⟨h1, h2⟩ := hc (a1, ()) (y, ()) (congrArg (Option.map fun r => (r, ())) e)
    exact ⟨h1, by first | (rw [h2]; done) | (rw [h2]; rfl)⟩
  · intro a1
    intro e
    exact hi (a1, ()) (map_isSome e)
  · intro a1
    rw [hd (a1, ())]
    cases lat_Check a1 <;> rfl
end Go.Proofs.Ytaachifkgcdeoaa.Lt
