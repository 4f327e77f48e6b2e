/- Functions of the program as functions that may fail, and that the code computes them (printed). Each theorem bears its conditions itself. -/
import Derived.Test.YthjbflbcdohooaaFlDefs
import Derived.Test.YthjbflbcdohooaaFlTab
import Derived.Test.YthjbflbcdohooaaFlQviewQCheck
import Derived.Test.YthjbflbcdohooaaFlQslicesQContainsQLintQint
open Go Go.Proofs.Ythjbflbcdohooaa.Sy Go.Proofs
set_option maxHeartbeats 4000000
set_option maxRecDepth 100000
set_option cbv.maxSteps 10000000
set_option linter.unusedVariables false
set_option linter.unusedSimpArgs false
namespace Go.Proofs.Ythjbflbcdohooaa.Fl
theorem flush_Check_runs : SpecRuns Try.prog 12 (oSpec [.st [.st [.int .i64, .int .u8], .int .u8, .arr 6 (.list (.int .i64))]] [.v] [.int .i64] [.n] fun x => (flush_Check x.1).map fun r => (r, ())) := by
  obtain ⟨pg22, fg22, hs22, hc22, hi22, hd22⟩ := view_Check_sp
  obtain ⟨pg9, fg9, hs9, hc9, hi9, hd9⟩ := slices_Contains_Lint_int_sp
  have hsp : SpecsOk Try.prog [(22, ⟨[.st [.int .i64, .int .u8]], [.v], [.int .i64], [.n], pg22, fg22⟩), (9, ⟨[.list (.int .i64), .int .i64], [.v, .v], [.bool], [.n], pg9, fg9⟩)] := (specsOk_cons Try.func22 (by kernel_rfl) (by kernel_rfl) hs22 (specsOk_cons Try.func9 (by kernel_rfl) (by kernel_rfl) hs9 specsOk_nil))
  refine runs_of_o tabOk Try.func12 rfl (Nat.le_of_ble_eq_true rfl) rfl ?_
  rintro E ⟨(f_1 : ((Int × Int × Unit) × Int × List (List Int) × Unit)), ⟨⟩⟩ y hP H hw
  obtain ⟨z, H1, rfl⟩ := map_out H
  replace H : flush_Check f_1 = some z := H1
  clear hw H1
  unfold flush_Check at H
  refine tr_keep [0] (σ' := mkSl 64 0 [(0, .val (.st [.st [.int .i64, .int .u8], .int .u8, .arr 6 (.list (.int .i64))]) .n f_1)]) rfl ?_
  refine tr_seq ?_
  refine tr_rg hP tabOk hsp fun A hA M hM => ?_
  cbv
  refine hM _ ?_
  refine tr_seq ?_
  refine tr_seq ?_
  refine tr_keep [1] (σ' := mkSl 64 0 [(1, .val (.box (.st [.st [.int .i64, .int .u8], .int .u8, .arr 6 (.list (.int .i64))])) (.b .n) f_1)]) (by subst hA; rfl) ?_
  clear hM hA M A
  refine tr_rg hP tabOk hsp fun A hA M hM => ?_
  cbv
  obtain ⟨r_2, hr1, H⟩ := bind_out H
  obtain ⟨pq1, eq1⟩ := hc22 hr1
  refine ⟨by subst hA; subst eq1; exact pq1, hM _ ?_⟩
  refine tr_seq ?_
  refine tr_keep [1, 3] (σ' := mkSl 64 0 [(1, .val (.box (.st [.st [.int .i64, .int .u8], .int .u8, .arr 6 (.list (.int .i64))])) (.b .n) f_1), (3, .val (.int .i64) .n r_2)]) (by subst hA; subst eq1; rfl) ?_
  clear pq1 eq1 hr1 hM hA M A
  refine tr_rg hP tabOk hsp fun A hA M hM => ?_
  cbv
  refine hM _ ?_
  refine tr_keep [1, 3, 12] (σ' := mkSl 64 0 [(1, .val (.box (.st [.st [.int .i64, .int .u8], .int .u8, .arr 6 (.list (.int .i64))])) (.b .n) f_1), (3, .val (.int .i64) .n r_2), (12, .val (.bool) .n (r_2 != (0 : Int)))]) (by subst hA; rfl) ?_
  clear hM hA M A
  refine tr_cond rfl (fun hc => ?_) (fun hc => ?_)
  · replace H := if_t H hc
    refine tr_keep [1, 3] (σ' := mkSl 64 0 [(1, .val (.box (.st [.st [.int .i64, .int .u8], .int .u8, .arr 6 (.list (.int .i64))])) (.b .n) f_1), (3, .val (.int .i64) .n r_2)]) rfl ?_
    refine tr_seq ?_
    refine tr_rg hP tabOk hsp fun A hA M hM => ?_
    cbv
    refine hM _ ?_
    refine tr_ret ?_
    have hr := Option.some.inj H
    subst hr
    subst hA
    exact rfl
  · replace H := if_f H hc
    refine tr_keep [1, 3] (σ' := mkSl 64 0 [(1, .val (.box (.st [.st [.int .i64, .int .u8], .int .u8, .arr 6 (.list (.int .i64))])) (.b .n) f_1), (3, .val (.int .i64) .n r_2)]) rfl ?_
    refine tr_skip ?_
    refine tr_seq ?_
    refine tr_seq ?_
    refine tr_rg hP tabOk hsp fun A hA M hM => ?_
    cbv
    refine hM _ ?_
    refine tr_keep [1, 20] (σ' := mkSl 64 0 [(1, .val (.box (.st [.st [.int .i64, .int .u8], .int .u8, .arr 6 (.list (.int .i64))])) (.b .n) f_1), (20, .val (.bool) .n ((arR .andNot .u8 f_1.2.1 f_1.1.2.1) != (0 : Int)))]) (by subst hA; rfl) ?_
    clear hM hA M A
    refine tr_cond rfl (fun hc => ?_) (fun hc => ?_)
    · replace H := if_t H hc
      refine tr_keep [1] (σ' := mkSl 64 0 [(1, .val (.box (.st [.st [.int .i64, .int .u8], .int .u8, .arr 6 (.list (.int .i64))])) (.b .n) f_1)]) rfl ?_
      refine tr_seq ?_
      refine tr_rg hP tabOk hsp fun A hA M hM => ?_
      cbv
      refine hM _ ?_
      refine tr_ret ?_
      have hr := Option.some.inj H
      subst hr
      subst hA
      exact rfl
    · replace H := if_f H hc
      refine tr_keep [1] (σ' := mkSl 64 0 [(1, .val (.box (.st [.st [.int .i64, .int .u8], .int .u8, .arr 6 (.list (.int .i64))])) (.b .n) f_1)]) rfl ?_
      refine tr_skip ?_
      refine tr_seq ?_
      refine tr_seq ?_
      refine tr_rg hP tabOk hsp fun A hA M hM => ?_
      cbv
      refine hM _ ?_
      refine tr_block ?_
      refine tr_keep [1, 22, 23] (σ' := mkSl 64 0 [(1, .val (.box (.st [.st [.int .i64, .int .u8], .int .u8, .arr 6 (.list (.int .i64))])) (.b .n) f_1), (22, .val (.arr 6 (.list (.int .i64))) .n f_1.2.2.1), (23, .val (.int .i64) .n (0 : Int))]) (by subst hA; rfl) ?_
      clear hM hA M A
      obtain ⟨q, hq, Hl, Hr⟩ := bindE_out H
      refine tr_loopE 0 (fun x : Int => flush_Check_L1 f_1 x) (fun x : Int => mkSl 64 0 [(1, .val (.box (.st [.st [.int .i64, .int .u8], .int .u8, .arr 6 (.list (.int .i64))])) (.b .n) f_1), (22, .val (.arr 6 (.list (.int .i64))) .n f_1.2.2.1), (23, .val (.int .i64) .n x)]) [1, 22, 23] (fun q_4 : Unit => mkSl 64 0 []) [] hq rfl Hr (fun q_4 hl σ' h => ?_) (fun x r1 H => ?_)
      · replace H := Hl q_4 hl
        refine tr_keep [] h ?_
        refine tr_seq ?_
        refine tr_rg hP tabOk hsp fun A hA M hM => ?_
        cbv
        refine hM _ ?_
        refine tr_ret ?_
        have hr := Option.some.inj H
        subst hr
        subst hA
        exact rfl
      · obtain ⟨t23_3, rfl⟩ : ∃ v, v = x := ⟨x, rfl⟩
        replace H : flush_Check_L1 f_1 t23_3 = some r1 := H
        unfold flush_Check_L1 at H
        refine tr_seq ?_
        refine tr_rg hP tabOk hsp fun A hA M hM => ?_
        cbv
        refine hM _ ?_
        refine tr_seq ?_
        refine tr_keep [1, 22, 23, 24] (σ' := mkSl 64 0 [(1, .val (.box (.st [.st [.int .i64, .int .u8], .int .u8, .arr 6 (.list (.int .i64))])) (.b .n) f_1), (22, .val (.arr 6 (.list (.int .i64))) .n f_1.2.2.1), (23, .val (.int .i64) .n t23_3), (24, .val (.bool) .n (decide (t23_3 < (6 : Int))))]) (by subst hA; rfl) ?_
        clear hM hA M A
        refine tr_cond rfl (fun hc => ?_) (fun hc => ?_)
        · replace H := if_t H hc
          refine tr_keep [1, 22, 23] (σ' := mkSl 64 0 [(1, .val (.box (.st [.st [.int .i64, .int .u8], .int .u8, .arr 6 (.list (.int .i64))])) (.b .n) f_1), (22, .val (.arr 6 (.list (.int .i64))) .n f_1.2.2.1), (23, .val (.int .i64) .n t23_3)]) rfl ?_
          refine tr_skip ?_
          refine tr_seq ?_
          refine tr_block ?_
          refine tr_seq ?_
          refine tr_rg hP tabOk hsp fun A hA M hM => ?_
          cbv
          obtain ⟨ob1, H⟩ := ck_out H
          refine ⟨by subst hA; exact ob1, hM _ ?_⟩
          refine tr_seq ?_
          refine tr_seq ?_
          refine tr_keepL [1, 4, 5, 22, 23] (fun l_5 : List Int => mkSl 64 0 [(1, .val (.box (.st [.st [.int .i64, .int .u8], .int .u8, .arr 6 (.list (.int .i64))])) (.b .n) f_1), (4, .val (.int .i64) .n t23_3), (5, .val (.list (.int .i64)) .n l_5), (22, .val (.arr 6 (.list (.int .i64))) .n f_1.2.2.1), (23, .val (.int .i64) .n t23_3)]) H (by subst hA; rfl) (fun l_5 H => ?_)
          clear ob1 hM hA M A
          refine tr_rg hP tabOk hsp fun A hA M hM => ?_
          cbv
          refine hM _ ?_
          refine tr_keep [1, 4, 5, 22, 23, 29] (σ' := mkSl 64 0 [(1, .val (.box (.st [.st [.int .i64, .int .u8], .int .u8, .arr 6 (.list (.int .i64))])) (.b .n) f_1), (4, .val (.int .i64) .n t23_3), (5, .val (.list (.int .i64)) .n l_5), (22, .val (.arr 6 (.list (.int .i64))) .n f_1.2.2.1), (23, .val (.int .i64) .n t23_3), (29, .val (.bool) .n (decide ((l_5.length : Int) > (30 : Int))))]) (by subst hA; rfl) ?_
          clear hM hA M A
          refine tr_cond rfl (fun hc => ?_) (fun hc => ?_)
          · replace H := if_t H hc
            refine tr_keep [1, 4, 5, 22, 23] (σ' := mkSl 64 0 [(1, .val (.box (.st [.st [.int .i64, .int .u8], .int .u8, .arr 6 (.list (.int .i64))])) (.b .n) f_1), (4, .val (.int .i64) .n t23_3), (5, .val (.list (.int .i64)) .n l_5), (22, .val (.arr 6 (.list (.int .i64))) .n f_1.2.2.1), (23, .val (.int .i64) .n t23_3)]) rfl ?_
            refine tr_seq ?_
            refine tr_rg hP tabOk hsp fun A hA M hM => ?_
            cbv
            refine hM _ ?_
            refine tr_ret ?_
            have hr := Option.some.inj H
            refine Exists.intro _ (And.intro hr.symm (fun hr => ?_))
            subst hr
            subst hA
            exact rfl
          · replace H := if_f H hc
            refine tr_keep [1, 4, 5, 22, 23] (σ' := mkSl 64 0 [(1, .val (.box (.st [.st [.int .i64, .int .u8], .int .u8, .arr 6 (.list (.int .i64))])) (.b .n) f_1), (4, .val (.int .i64) .n t23_3), (5, .val (.list (.int .i64)) .n l_5), (22, .val (.arr 6 (.list (.int .i64))) .n f_1.2.2.1), (23, .val (.int .i64) .n t23_3)]) rfl ?_
            refine tr_skip ?_
            refine tr_seq ?_
            refine tr_seq ?_
            refine tr_rg hP tabOk hsp fun A hA M hM => ?_
            cbv
            obtain ⟨ob1, H⟩ := ck_out H
            refine ⟨by subst hA; exact ob1, hM _ ?_⟩
            refine tr_keep [1, 5, 22, 23, 41] (σ' := mkSl 64 0 [(1, .val (.box (.st [.st [.int .i64, .int .u8], .int .u8, .arr 6 (.list (.int .i64))])) (.b .n) f_1), (5, .val (.list (.int .i64)) .n l_5), (22, .val (.arr 6 (.list (.int .i64))) .n f_1.2.2.1), (23, .val (.int .i64) .n t23_3), (41, .val (.bool) .n ((decide ((l_5.length : Int) > (0 : Int))) && ((arR .and .u8 (arR .shr .u8 f_1.1.2.1 t23_3) (1 : Int)) == (0 : Int))))]) (by subst hA; rfl) ?_
            clear ob1 hM hA M A
            refine tr_cond rfl (fun hc => ?_) (fun hc => ?_)
            · replace H := if_t H hc
              refine tr_keep [1, 5, 22, 23] (σ' := mkSl 64 0 [(1, .val (.box (.st [.st [.int .i64, .int .u8], .int .u8, .arr 6 (.list (.int .i64))])) (.b .n) f_1), (5, .val (.list (.int .i64)) .n l_5), (22, .val (.arr 6 (.list (.int .i64))) .n f_1.2.2.1), (23, .val (.int .i64) .n t23_3)]) rfl ?_
              refine tr_seq ?_
              refine tr_rg hP tabOk hsp fun A hA M hM => ?_
              cbv
              refine hM _ ?_
              refine tr_ret ?_
              have hr := Option.some.inj H
              refine Exists.intro _ (And.intro hr.symm (fun hr => ?_))
              subst hr
              subst hA
              exact rfl
            · replace H := if_f H hc
              refine tr_keep [1, 5, 22, 23] (σ' := mkSl 64 0 [(1, .val (.box (.st [.st [.int .i64, .int .u8], .int .u8, .arr 6 (.list (.int .i64))])) (.b .n) f_1), (5, .val (.list (.int .i64)) .n l_5), (22, .val (.arr 6 (.list (.int .i64))) .n f_1.2.2.1), (23, .val (.int .i64) .n t23_3)]) rfl ?_
              refine tr_skip ?_
              refine tr_seq ?_
              refine tr_rg hP tabOk hsp fun A hA M hM => ?_
              cbv
              refine hM _ ?_
              refine tr_block ?_
              refine tr_keepL [1, 5, 22, 23, 42, 43, 44] (fun t43_6 : Int => mkSl 64 0 [(1, .val (.box (.st [.st [.int .i64, .int .u8], .int .u8, .arr 6 (.list (.int .i64))])) (.b .n) f_1), (5, .val (.list (.int .i64)) .n l_5), (22, .val (.arr 6 (.list (.int .i64))) .n f_1.2.2.1), (23, .val (.int .i64) .n t23_3), (42, .val (.list (.int .i64)) .n l_5), (43, .val (.int .i64) .n t43_6), (44, .val (.int .i64) .n (0 : Int))]) H (by subst hA; rfl) (fun t43_6 H => ?_)
              clear hM hA M A
              obtain ⟨q, hq, Hl, Hr⟩ := bindE_out H
              refine tr_loopE 2 (fun x : Int => flush_Check_L2 l_5 t43_6 x) (fun x : Int => mkSl 64 0 [(1, .val (.box (.st [.st [.int .i64, .int .u8], .int .u8, .arr 6 (.list (.int .i64))])) (.b .n) f_1), (5, .val (.list (.int .i64)) .n l_5), (22, .val (.arr 6 (.list (.int .i64))) .n f_1.2.2.1), (23, .val (.int .i64) .n t23_3), (42, .val (.list (.int .i64)) .n l_5), (43, .val (.int .i64) .n t43_6), (44, .val (.int .i64) .n x)]) [1, 5, 22, 23, 42, 43, 44] (fun q_8 : Unit => mkSl 64 0 [(1, .val (.box (.st [.st [.int .i64, .int .u8], .int .u8, .arr 6 (.list (.int .i64))])) (.b .n) f_1), (5, .val (.list (.int .i64)) .n l_5), (22, .val (.arr 6 (.list (.int .i64))) .n f_1.2.2.1), (23, .val (.int .i64) .n t23_3)]) [1, 5, 22, 23] hq rfl Hr (fun q_8 hl σ' h => ?_) (fun x r2 H => ?_)
              · replace H := Hl q_8 hl
                refine tr_keep [1, 5, 22, 23] h ?_
                refine tr_rg hP tabOk hsp fun A hA M hM => ?_
                cbv
                refine hM _ ?_
                exact Exists.intro _ (And.intro (Option.some.inj H).symm (by subst hA; rfl))
              · obtain ⟨t44_7, rfl⟩ : ∃ v, v = x := ⟨x, rfl⟩
                replace H : flush_Check_L2 l_5 t43_6 t44_7 = some r2 := H
                unfold flush_Check_L2 at H
                refine tr_seq ?_
                refine tr_rg hP tabOk hsp fun A hA M hM => ?_
                cbv
                refine hM _ ?_
                refine tr_seq ?_
                refine tr_keep [1, 5, 22, 23, 42, 43, 44, 45] (σ' := mkSl 64 0 [(1, .val (.box (.st [.st [.int .i64, .int .u8], .int .u8, .arr 6 (.list (.int .i64))])) (.b .n) f_1), (5, .val (.list (.int .i64)) .n l_5), (22, .val (.arr 6 (.list (.int .i64))) .n f_1.2.2.1), (23, .val (.int .i64) .n t23_3), (42, .val (.list (.int .i64)) .n l_5), (43, .val (.int .i64) .n t43_6), (44, .val (.int .i64) .n t44_7), (45, .val (.bool) .n (decide (t44_7 < t43_6)))]) (by subst hA; rfl) ?_
                clear hM hA M A
                refine tr_cond rfl (fun hc => ?_) (fun hc => ?_)
                · replace H := if_t H hc
                  refine tr_keep [1, 5, 22, 23, 42, 43, 44] (σ' := mkSl 64 0 [(1, .val (.box (.st [.st [.int .i64, .int .u8], .int .u8, .arr 6 (.list (.int .i64))])) (.b .n) f_1), (5, .val (.list (.int .i64)) .n l_5), (22, .val (.arr 6 (.list (.int .i64))) .n f_1.2.2.1), (23, .val (.int .i64) .n t23_3), (42, .val (.list (.int .i64)) .n l_5), (43, .val (.int .i64) .n t43_6), (44, .val (.int .i64) .n t44_7)]) rfl ?_
                  refine tr_skip ?_
                  refine tr_seq ?_
                  refine tr_block ?_
                  refine tr_seq ?_
                  refine tr_rg hP tabOk hsp fun A hA M hM => ?_
                  cbv
                  obtain ⟨ob1, H⟩ := ck_out H
                  refine ⟨by subst hA; exact ob1, hM _ ?_⟩
                  refine tr_seq ?_
                  refine tr_keepL [1, 5, 6, 7, 22, 23, 42, 43, 44] (fun m_9 : Int => mkSl 64 0 [(1, .val (.box (.st [.st [.int .i64, .int .u8], .int .u8, .arr 6 (.list (.int .i64))])) (.b .n) f_1), (5, .val (.list (.int .i64)) .n l_5), (6, .val (.int .i64) .n t44_7), (7, .val (.int .i64) .n m_9), (22, .val (.arr 6 (.list (.int .i64))) .n f_1.2.2.1), (23, .val (.int .i64) .n t23_3), (42, .val (.list (.int .i64)) .n l_5), (43, .val (.int .i64) .n t43_6), (44, .val (.int .i64) .n t44_7)]) H (by subst hA; rfl) (fun m_9 H => ?_)
                  clear ob1 hM hA M A
                  refine tr_rg hP tabOk hsp fun A hA M hM => ?_
                  cbv
                  obtain ⟨ob1, H⟩ := ck_out H
                  obtain ⟨r_10, er2, H⟩ := letO_out H
                  obtain ⟨ob2, H⟩ := ck_out H
                  have eq2 := er2.trans hd9
                  refine ⟨by subst hA; exact ob1, by subst hA; subst eq2; exact fun h0 => hi9 (ob2 h0), hM _ ?_⟩
                  refine tr_keep [1, 5, 22, 23, 42, 43, 44, 61] (σ' := mkSl 64 0 [(1, .val (.box (.st [.st [.int .i64, .int .u8], .int .u8, .arr 6 (.list (.int .i64))])) (.b .n) f_1), (5, .val (.list (.int .i64)) .n l_5), (22, .val (.arr 6 (.list (.int .i64))) .n f_1.2.2.1), (23, .val (.int .i64) .n t23_3), (42, .val (.list (.int .i64)) .n l_5), (43, .val (.int .i64) .n t43_6), (44, .val (.int .i64) .n t44_7), (61, .val (.bool) .n (((decide (m_9 < (0 : Int))) || (decide (m_9 ≥ (30 : Int)))) || r_10))]) (by subst hA; subst eq2; rfl) ?_
                  clear ob2 eq2 er2 ob1 hM hA M A
                  refine tr_cond rfl (fun hc => ?_) (fun hc => ?_)
                  · replace H := if_t H hc
                    refine tr_keep [1, 5, 22, 23, 42, 43, 44] (σ' := mkSl 64 0 [(1, .val (.box (.st [.st [.int .i64, .int .u8], .int .u8, .arr 6 (.list (.int .i64))])) (.b .n) f_1), (5, .val (.list (.int .i64)) .n l_5), (22, .val (.arr 6 (.list (.int .i64))) .n f_1.2.2.1), (23, .val (.int .i64) .n t23_3), (42, .val (.list (.int .i64)) .n l_5), (43, .val (.int .i64) .n t43_6), (44, .val (.int .i64) .n t44_7)]) rfl ?_
                    refine tr_seq ?_
                    refine tr_rg hP tabOk hsp fun A hA M hM => ?_
                    cbv
                    refine hM _ ?_
                    refine tr_ret ?_
                    have hr := Option.some.inj H
                    refine Exists.intro _ (And.intro hr.symm (fun hr => ?_))
                    refine Exists.intro _ (And.intro hr.symm (fun hr => ?_))
                    subst hr
                    subst hA
                    exact rfl
                  · replace H := if_f H hc
                    refine tr_keep [1, 5, 22, 23, 42, 43, 44] (σ' := mkSl 64 0 [(1, .val (.box (.st [.st [.int .i64, .int .u8], .int .u8, .arr 6 (.list (.int .i64))])) (.b .n) f_1), (5, .val (.list (.int .i64)) .n l_5), (22, .val (.arr 6 (.list (.int .i64))) .n f_1.2.2.1), (23, .val (.int .i64) .n t23_3), (42, .val (.list (.int .i64)) .n l_5), (43, .val (.int .i64) .n t43_6), (44, .val (.int .i64) .n t44_7)]) rfl ?_
                    refine tr_skip ?_
                    refine tr_rg hP tabOk hsp fun A hA M hM => ?_
                    cbv
                    refine hM _ ?_
                    exact Exists.intro _ (And.intro (Option.some.inj H).symm (by subst hA; rfl))
                · replace H := if_f H hc
                  refine tr_keep [1, 5, 22, 23, 42, 43, 44] (σ' := mkSl 64 0 [(1, .val (.box (.st [.st [.int .i64, .int .u8], .int .u8, .arr 6 (.list (.int .i64))])) (.b .n) f_1), (5, .val (.list (.int .i64)) .n l_5), (22, .val (.arr 6 (.list (.int .i64))) .n f_1.2.2.1), (23, .val (.int .i64) .n t23_3), (42, .val (.list (.int .i64)) .n l_5), (43, .val (.int .i64) .n t43_6), (44, .val (.int .i64) .n t44_7)]) rfl ?_
                  refine tr_exit ?_
                  exact And.intro rfl (Exists.intro _ (And.intro (Option.some.inj H).symm (by rfl)))
        · replace H := if_f H hc
          refine tr_keep [1, 22, 23] (σ' := mkSl 64 0 [(1, .val (.box (.st [.st [.int .i64, .int .u8], .int .u8, .arr 6 (.list (.int .i64))])) (.b .n) f_1), (22, .val (.arr 6 (.list (.int .i64))) .n f_1.2.2.1), (23, .val (.int .i64) .n t23_3)]) rfl ?_
          refine tr_exit ?_
          exact And.intro rfl (Exists.intro _ (And.intro (Option.some.inj H).symm (by rfl)))
theorem flush_Check_sp : ∃ (pg : PT.denL [.st [.st [.int .i64, .int .u8], .int .u8, .arr 6 (.list (.int .i64))]] → Prop) (fg : PT.denL [.st [.st [.int .i64, .int .u8], .int .u8, .arr 6 (.list (.int .i64))]] → PT.denL [.int .i64]), SpecRuns Try.prog 12 ⟨[.st [.st [.int .i64, .int .u8], .int .u8, .arr 6 (.list (.int .i64))]], [.v], [.int .i64], [.n], pg, fg⟩ ∧ (∀ {a1 : ((Int × Int × Unit) × Int × List (List Int) × Unit)} {y : Int}, flush_Check a1 = some y → pg (a1, ()) ∧ y = (fg (a1, ())).1) ∧ (∀ {a1 : ((Int × Int × Unit) × Int × List (List Int) × Unit)}, (flush_Check a1).isSome = true → pg (a1, ())) ∧ ∀ {a1 : ((Int × Int × Unit) × Int × List (List Int) × Unit)}, (flush_Check a1).getD (0 : Int) = (fg (a1, ())).1 := by
  obtain ⟨pg, fg, h, hc, hi, hd⟩ := spec_hide flush_Check_runs
  refine ⟨pg, fg, h, ?_, ?_, ?_⟩
  · intro a1 y e
    obtain ⟨h1, h2⟩ := hc (a1, ()) (y, ()) (congrArg (Option.map fun r => (r, ())) e)
    exact ⟨h1, by first | (rw [h2]; done) | (rw [h2]; rfl)⟩
  · intro a1
    intro e
    exact hi (a1, ()) (map_isSome e)
  · intro a1
    rw [hd (a1, ())]
    cases flush_Check a1 <;> rfl
end Go.Proofs.Ythjbflbcdohooaa.Fl
