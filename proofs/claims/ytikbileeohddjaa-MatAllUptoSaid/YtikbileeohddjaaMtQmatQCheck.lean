/- Functions of the program as functions that may fail, and that the code computes them (printed). Each theorem bears its conditions itself. -/
import Derived.Test.YtikbileeohddjaaMtDefs
import Derived.Test.YtikbileeohddjaaMtTab
open Go Go.Proofs.Ytikbileeohddjaa.Sy Go.Proofs
set_option maxHeartbeats 4000000
set_option maxRecDepth 100000
set_option cbv.maxSteps 10000000
set_option linter.unusedVariables false
set_option linter.unusedSimpArgs false
namespace Go.Proofs.Ytikbileeohddjaa.Mt
theorem mat_Check_runs : SpecRuns Try.prog 13 (oSpec [.st [.int .i64, .int .i64, .arr 6 (.arr 6 (.int .i64))]] [.v] [.int .i64] [.n] fun x => (mat_Check x.1).map fun r => (r, ())) := by
  have hsp : SpecsOk Try.prog [] := specsOk_nil
  refine runs_of_o tabOk Try.func13 rfl (Nat.le_of_ble_eq_true rfl) rfl ?_
  rintro E ⟨(t0_1 : (Int × Int × List (List Int) × Unit)), ⟨⟩⟩ y hP H hw
  obtain ⟨z, H1, rfl⟩ := map_out H
  replace H : mat_Check t0_1 = some z := H1
  clear hw H1
  unfold mat_Check at H
  refine tr_keep [0] (σ' := mkSl 71 0 [(0, .val (.st [.int .i64, .int .i64, .arr 6 (.arr 6 (.int .i64))]) .n t0_1)]) rfl ?_
  refine tr_seq ?_
  refine tr_rg hP tabOk hsp fun A hA M hM => ?_
  cbv
  refine hM _ ?_
  refine tr_seq ?_
  refine tr_seq ?_
  refine tr_keep [1] (σ' := mkSl 71 0 [(1, .val (.box (.st [.int .i64, .int .i64, .arr 6 (.arr 6 (.int .i64))])) (.b .n) t0_1)]) (by subst hA; rfl) ?_
  clear hM hA M A
  refine tr_rg hP tabOk hsp fun A hA M hM => ?_
  cbv
  refine hM _ ?_
  refine tr_keep [1, 26] (σ' := mkSl 71 0 [(1, .val (.box (.st [.int .i64, .int .i64, .arr 6 (.arr 6 (.int .i64))])) (.b .n) t0_1), (26, .val (.bool) .n ((((decide (t0_1.1 < (1 : Int))) || (decide (t0_1.1 > (6 : Int)))) || (decide (t0_1.2.1 < (0 : Int)))) || (decide (t0_1.2.1 ≥ t0_1.1))))]) (by subst hA; rfl) ?_
  clear hM hA M A
  refine tr_cond rfl (fun hc => ?_) (fun hc => ?_)
  · replace H := if_t H hc
    refine tr_keep [1] (σ' := mkSl 71 0 [(1, .val (.box (.st [.int .i64, .int .i64, .arr 6 (.arr 6 (.int .i64))])) (.b .n) t0_1)]) rfl ?_
    refine tr_seq ?_
    refine tr_rg hP tabOk hsp fun A hA M hM => ?_
    cbv
    refine hM _ ?_
    refine tr_ret ?_
    have hr := Option.some.inj H
    subst hr
    subst hA
    exact rfl
  · replace H := if_f H hc
    refine tr_keep [1] (σ' := mkSl 71 0 [(1, .val (.box (.st [.int .i64, .int .i64, .arr 6 (.arr 6 (.int .i64))])) (.b .n) t0_1)]) rfl ?_
    refine tr_skip ?_
    refine tr_seq ?_
    refine tr_seq ?_
    refine tr_rg hP tabOk hsp fun A hA M hM => ?_
    cbv
    refine hM _ ?_
    refine tr_block ?_
    refine tr_keep [1, 28, 29] (σ' := mkSl 71 0 [(1, .val (.box (.st [.int .i64, .int .i64, .arr 6 (.arr 6 (.int .i64))])) (.b .n) t0_1), (28, .val (.arr 6 (.arr 6 (.int .i64))) .n t0_1.2.2.1), (29, .val (.int .i64) .n (0 : Int))]) (by subst hA; rfl) ?_
    clear hM hA M A
    obtain ⟨q, hq, Hl, Hr⟩ := bindE_out H
    refine tr_loopE 0 (fun x : Int => mat_Check_L1 t0_1 x) (fun x : Int => mkSl 71 0 [(1, .val (.box (.st [.int .i64, .int .i64, .arr 6 (.arr 6 (.int .i64))])) (.b .n) t0_1), (28, .val (.arr 6 (.arr 6 (.int .i64))) .n t0_1.2.2.1), (29, .val (.int .i64) .n x)]) [1, 28, 29] (fun q_3 : Unit => mkSl 71 0 []) [] hq rfl Hr (fun q_3 hl σ' h => ?_) (fun x r1 H => ?_)
    · replace H := Hl q_3 hl
      refine tr_keep [] h ?_
      refine tr_seq ?_
      refine tr_rg hP tabOk hsp fun A hA M hM => ?_
      cbv
      refine hM _ ?_
      refine tr_ret ?_
      have hr := Option.some.inj H
      subst hr
      subst hA
      exact rfl
    · obtain ⟨t29_2, rfl⟩ : ∃ v, v = x := ⟨x, rfl⟩
      replace H : mat_Check_L1 t0_1 t29_2 = some r1 := H
      unfold mat_Check_L1 at H
      refine tr_seq ?_
      refine tr_rg hP tabOk hsp fun A hA M hM => ?_
      cbv
      refine hM _ ?_
      refine tr_seq ?_
      refine tr_keep [1, 28, 29, 30] (σ' := mkSl 71 0 [(1, .val (.box (.st [.int .i64, .int .i64, .arr 6 (.arr 6 (.int .i64))])) (.b .n) t0_1), (28, .val (.arr 6 (.arr 6 (.int .i64))) .n t0_1.2.2.1), (29, .val (.int .i64) .n t29_2), (30, .val (.bool) .n (decide (t29_2 < (6 : Int))))]) (by subst hA; rfl) ?_
      clear hM hA M A
      refine tr_cond rfl (fun hc => ?_) (fun hc => ?_)
      · replace H := if_t H hc
        refine tr_keep [1, 28, 29] (σ' := mkSl 71 0 [(1, .val (.box (.st [.int .i64, .int .i64, .arr 6 (.arr 6 (.int .i64))])) (.b .n) t0_1), (28, .val (.arr 6 (.arr 6 (.int .i64))) .n t0_1.2.2.1), (29, .val (.int .i64) .n t29_2)]) rfl ?_
        refine tr_skip ?_
        refine tr_seq ?_
        refine tr_block ?_
        refine tr_seq ?_
        refine tr_rg hP tabOk hsp fun A hA M hM => ?_
        cbv
        obtain ⟨ob1, H⟩ := ck_out H
        refine ⟨by subst hA; exact ob1, hM _ ?_⟩
        refine tr_seq ?_
        refine tr_keepL [1, 3, 4, 28, 29] (fun t4_4 : List Int => mkSl 71 0 [(1, .val (.box (.st [.int .i64, .int .i64, .arr 6 (.arr 6 (.int .i64))])) (.b .n) t0_1), (3, .val (.int .i64) .n t29_2), (4, .val (.box (.arr 6 (.int .i64))) (.b .n) t4_4), (28, .val (.arr 6 (.arr 6 (.int .i64))) .n t0_1.2.2.1), (29, .val (.int .i64) .n t29_2)]) H (by subst hA; rfl) (fun t4_4 H => ?_)
        clear ob1 hM hA M A
        refine tr_rg hP tabOk hsp fun A hA M hM => ?_
        cbv
        refine hM _ ?_
        refine tr_block ?_
        refine tr_keep [1, 3, 28, 29, 33, 34] (σ' := mkSl 71 0 [(1, .val (.box (.st [.int .i64, .int .i64, .arr 6 (.arr 6 (.int .i64))])) (.b .n) t0_1), (3, .val (.int .i64) .n t29_2), (28, .val (.arr 6 (.arr 6 (.int .i64))) .n t0_1.2.2.1), (29, .val (.int .i64) .n t29_2), (33, .val (.arr 6 (.int .i64)) .n t4_4), (34, .val (.int .i64) .n (0 : Int))]) (by subst hA; rfl) ?_
        clear hM hA M A
        obtain ⟨q, hq, Hl, Hr⟩ := bindE_out H
        refine tr_loopE 2 (fun x : Int => mat_Check_L2 t0_1 t29_2 t4_4 x) (fun x : Int => mkSl 71 0 [(1, .val (.box (.st [.int .i64, .int .i64, .arr 6 (.arr 6 (.int .i64))])) (.b .n) t0_1), (3, .val (.int .i64) .n t29_2), (28, .val (.arr 6 (.arr 6 (.int .i64))) .n t0_1.2.2.1), (29, .val (.int .i64) .n t29_2), (33, .val (.arr 6 (.int .i64)) .n t4_4), (34, .val (.int .i64) .n x)]) [1, 3, 28, 29, 33, 34] (fun q_6 : Unit => mkSl 71 0 [(1, .val (.box (.st [.int .i64, .int .i64, .arr 6 (.arr 6 (.int .i64))])) (.b .n) t0_1), (28, .val (.arr 6 (.arr 6 (.int .i64))) .n t0_1.2.2.1), (29, .val (.int .i64) .n t29_2)]) [1, 28, 29] hq rfl Hr (fun q_6 hl σ' h => ?_) (fun x r2 H => ?_)
        · replace H := Hl q_6 hl
          refine tr_keep [1, 28, 29] h ?_
          refine tr_rg hP tabOk hsp fun A hA M hM => ?_
          cbv
          refine hM _ ?_
          exact Exists.intro _ (And.intro (Option.some.inj H).symm (by subst hA; rfl))
        · obtain ⟨t34_5, rfl⟩ : ∃ v, v = x := ⟨x, rfl⟩
          replace H : mat_Check_L2 t0_1 t29_2 t4_4 t34_5 = some r2 := H
          unfold mat_Check_L2 at H
          refine tr_seq ?_
          refine tr_rg hP tabOk hsp fun A hA M hM => ?_
          cbv
          refine hM _ ?_
          refine tr_seq ?_
          refine tr_keep [1, 3, 28, 29, 33, 34, 35] (σ' := mkSl 71 0 [(1, .val (.box (.st [.int .i64, .int .i64, .arr 6 (.arr 6 (.int .i64))])) (.b .n) t0_1), (3, .val (.int .i64) .n t29_2), (28, .val (.arr 6 (.arr 6 (.int .i64))) .n t0_1.2.2.1), (29, .val (.int .i64) .n t29_2), (33, .val (.arr 6 (.int .i64)) .n t4_4), (34, .val (.int .i64) .n t34_5), (35, .val (.bool) .n (decide (t34_5 < (6 : Int))))]) (by subst hA; rfl) ?_
          clear hM hA M A
          refine tr_cond rfl (fun hc => ?_) (fun hc => ?_)
          · replace H := if_t H hc
            refine tr_keep [1, 3, 28, 29, 33, 34] (σ' := mkSl 71 0 [(1, .val (.box (.st [.int .i64, .int .i64, .arr 6 (.arr 6 (.int .i64))])) (.b .n) t0_1), (3, .val (.int .i64) .n t29_2), (28, .val (.arr 6 (.arr 6 (.int .i64))) .n t0_1.2.2.1), (29, .val (.int .i64) .n t29_2), (33, .val (.arr 6 (.int .i64)) .n t4_4), (34, .val (.int .i64) .n t34_5)]) rfl ?_
            refine tr_skip ?_
            refine tr_seq ?_
            refine tr_block ?_
            refine tr_seq ?_
            refine tr_rg hP tabOk hsp fun A hA M hM => ?_
            cbv
            obtain ⟨ob1, H⟩ := ck_out H
            refine ⟨by subst hA; exact ob1, hM _ ?_⟩
            refine tr_seq ?_
            refine tr_seq ?_
            refine tr_keepL [1, 3, 5, 6, 28, 29, 33, 34] (fun t6_7 : Int => mkSl 71 0 [(1, .val (.box (.st [.int .i64, .int .i64, .arr 6 (.arr 6 (.int .i64))])) (.b .n) t0_1), (3, .val (.int .i64) .n t29_2), (5, .val (.int .i64) .n t34_5), (6, .val (.int .i64) .n t6_7), (28, .val (.arr 6 (.arr 6 (.int .i64))) .n t0_1.2.2.1), (29, .val (.int .i64) .n t29_2), (33, .val (.arr 6 (.int .i64)) .n t4_4), (34, .val (.int .i64) .n t34_5)]) H (by subst hA; rfl) (fun t6_7 H => ?_)
            clear ob1 hM hA M A
            refine tr_rg hP tabOk hsp fun A hA M hM => ?_
            cbv
            refine hM _ ?_
            refine tr_keep [1, 3, 5, 6, 28, 29, 33, 34, 43] (σ' := mkSl 71 0 [(1, .val (.box (.st [.int .i64, .int .i64, .arr 6 (.arr 6 (.int .i64))])) (.b .n) t0_1), (3, .val (.int .i64) .n t29_2), (5, .val (.int .i64) .n t34_5), (6, .val (.int .i64) .n t6_7), (28, .val (.arr 6 (.arr 6 (.int .i64))) .n t0_1.2.2.1), (29, .val (.int .i64) .n t29_2), (33, .val (.arr 6 (.int .i64)) .n t4_4), (34, .val (.int .i64) .n t34_5), (43, .val (.bool) .n ((decide (t6_7 < (0 : Int))) || (decide (t6_7 > (16777215 : Int)))))]) (by subst hA; rfl) ?_
            clear hM hA M A
            refine tr_cond rfl (fun hc => ?_) (fun hc => ?_)
            · replace H := if_t H hc
              refine tr_keep [1, 3, 5, 6, 28, 29, 33, 34] (σ' := mkSl 71 0 [(1, .val (.box (.st [.int .i64, .int .i64, .arr 6 (.arr 6 (.int .i64))])) (.b .n) t0_1), (3, .val (.int .i64) .n t29_2), (5, .val (.int .i64) .n t34_5), (6, .val (.int .i64) .n t6_7), (28, .val (.arr 6 (.arr 6 (.int .i64))) .n t0_1.2.2.1), (29, .val (.int .i64) .n t29_2), (33, .val (.arr 6 (.int .i64)) .n t4_4), (34, .val (.int .i64) .n t34_5)]) rfl ?_
              refine tr_seq ?_
              refine tr_rg hP tabOk hsp fun A hA M hM => ?_
              cbv
              refine hM _ ?_
              refine tr_ret ?_
              have hr := Option.some.inj H
              refine Exists.intro _ (And.intro hr.symm (fun hr => ?_))
              refine Exists.intro _ (And.intro hr.symm (fun hr => ?_))
              subst hr
              subst hA
              exact rfl
            · replace H := if_f H hc
              refine tr_keep [1, 3, 5, 6, 28, 29, 33, 34] (σ' := mkSl 71 0 [(1, .val (.box (.st [.int .i64, .int .i64, .arr 6 (.arr 6 (.int .i64))])) (.b .n) t0_1), (3, .val (.int .i64) .n t29_2), (5, .val (.int .i64) .n t34_5), (6, .val (.int .i64) .n t6_7), (28, .val (.arr 6 (.arr 6 (.int .i64))) .n t0_1.2.2.1), (29, .val (.int .i64) .n t29_2), (33, .val (.arr 6 (.int .i64)) .n t4_4), (34, .val (.int .i64) .n t34_5)]) rfl ?_
              refine tr_skip ?_
              refine tr_seq ?_
              refine tr_rg hP tabOk hsp fun A hA M hM => ?_
              cbv
              obtain ⟨ob1, H⟩ := ck_out H
              obtain ⟨ob2, H⟩ := ck_out H
              refine ⟨by subst hA; exact ob1, by subst hA; exact ob2, hM _ ?_⟩
              refine tr_keep [1, 3, 28, 29, 33, 34, 68] (σ' := mkSl 71 0 [(1, .val (.box (.st [.int .i64, .int .i64, .arr 6 (.arr 6 (.int .i64))])) (.b .n) t0_1), (3, .val (.int .i64) .n t29_2), (28, .val (.arr 6 (.arr 6 (.int .i64))) .n t0_1.2.2.1), (29, .val (.int .i64) .n t29_2), (33, .val (.arr 6 (.int .i64)) .n t4_4), (34, .val (.int .i64) .n t34_5), (68, .val (.bool) .n (((decide (t6_7 > (0 : Int))) && ((decide (t29_2 ≥ t0_1.1)) || (decide (t34_5 ≥ t0_1.1)))) || (decide (t6_7 > ((t0_1.2.2.1.getD t0_1.2.1.toNat (List.replicate 6 (0 : Int))).getD t34_5.toNat (0 : Int))))))]) (by subst hA; rfl) ?_
              clear ob2 ob1 hM hA M A
              refine tr_cond rfl (fun hc => ?_) (fun hc => ?_)
              · replace H := if_t H hc
                refine tr_keep [1, 3, 28, 29, 33, 34] (σ' := mkSl 71 0 [(1, .val (.box (.st [.int .i64, .int .i64, .arr 6 (.arr 6 (.int .i64))])) (.b .n) t0_1), (3, .val (.int .i64) .n t29_2), (28, .val (.arr 6 (.arr 6 (.int .i64))) .n t0_1.2.2.1), (29, .val (.int .i64) .n t29_2), (33, .val (.arr 6 (.int .i64)) .n t4_4), (34, .val (.int .i64) .n t34_5)]) rfl ?_
                refine tr_seq ?_
                refine tr_rg hP tabOk hsp fun A hA M hM => ?_
                cbv
                refine hM _ ?_
                refine tr_ret ?_
                have hr := Option.some.inj H
                refine Exists.intro _ (And.intro hr.symm (fun hr => ?_))
                refine Exists.intro _ (And.intro hr.symm (fun hr => ?_))
                subst hr
                subst hA
                exact rfl
              · replace H := if_f H hc
                refine tr_keep [1, 3, 28, 29, 33, 34] (σ' := mkSl 71 0 [(1, .val (.box (.st [.int .i64, .int .i64, .arr 6 (.arr 6 (.int .i64))])) (.b .n) t0_1), (3, .val (.int .i64) .n t29_2), (28, .val (.arr 6 (.arr 6 (.int .i64))) .n t0_1.2.2.1), (29, .val (.int .i64) .n t29_2), (33, .val (.arr 6 (.int .i64)) .n t4_4), (34, .val (.int .i64) .n t34_5)]) rfl ?_
                refine tr_skip ?_
                refine tr_rg hP tabOk hsp fun A hA M hM => ?_
                cbv
                refine hM _ ?_
                exact Exists.intro _ (And.intro (Option.some.inj H).symm (by subst hA; rfl))
          · replace H := if_f H hc
            refine tr_keep [1, 3, 28, 29, 33, 34] (σ' := mkSl 71 0 [(1, .val (.box (.st [.int .i64, .int .i64, .arr 6 (.arr 6 (.int .i64))])) (.b .n) t0_1), (3, .val (.int .i64) .n t29_2), (28, .val (.arr 6 (.arr 6 (.int .i64))) .n t0_1.2.2.1), (29, .val (.int .i64) .n t29_2), (33, .val (.arr 6 (.int .i64)) .n t4_4), (34, .val (.int .i64) .n t34_5)]) rfl ?_
            refine tr_exit ?_
            exact And.intro rfl (Exists.intro _ (And.intro (Option.some.inj H).symm (by rfl)))
      · replace H := if_f H hc
        refine tr_keep [1, 28, 29] (σ' := mkSl 71 0 [(1, .val (.box (.st [.int .i64, .int .i64, .arr 6 (.arr 6 (.int .i64))])) (.b .n) t0_1), (28, .val (.arr 6 (.arr 6 (.int .i64))) .n t0_1.2.2.1), (29, .val (.int .i64) .n t29_2)]) rfl ?_
        refine tr_exit ?_
        exact And.intro rfl (Exists.intro _ (And.intro (Option.some.inj H).symm (by rfl)))
theorem mat_Check_sp : ∃ (pg : PT.denL [.st [.int .i64, .int .i64, .arr 6 (.arr 6 (.int .i64))]] → Prop) (fg : PT.denL [.st [.int .i64, .int .i64, .arr 6 (.arr 6 (.int .i64))]] → PT.denL [.int .i64]), SpecRuns Try.prog 13 ⟨[.st [.int .i64, .int .i64, .arr 6 (.arr 6 (.int .i64))]], [.v], [.int .i64], [.n], pg, fg⟩ ∧ (∀ {a1 : (Int × Int × List (List Int) × Unit)} {y : Int}, mat_Check a1 = some y → pg (a1, ()) ∧ y = (fg (a1, ())).1) ∧ (∀ {a1 : (Int × Int × List (List Int) × Unit)}, (mat_Check a1).isSome = true → pg (a1, ())) ∧ ∀ {a1 : (Int × Int × List (List Int) × Unit)}, (mat_Check a1).getD (0 : Int) = (fg (a1, ())).1 := by
  obtain ⟨pg, fg, h, hc, hi, hd⟩ := spec_hide mat_Check_runs
  refine ⟨pg, fg, h, ?_, ?_, ?_⟩
  · intro a1 y e
    obtain ⟨h1, h2⟩ := hc (a1, ()) (y, ()) (congrArg (Option.map fun r => (r, ())) e)
    exact ⟨h1, by first | (rw [h2]; done) | (rw [h2]; rfl)⟩
  · intro a1
    intro e
    exact hi (a1, ()) (map_isSome e)
  · intro a1
    rw [hd (a1, ())]
    cases mat_Check a1 <;> rfl
end Go.Proofs.Ytikbileeohddjaa.Mt
