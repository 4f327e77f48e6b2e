/- Functions of the program as functions that may fail, and that the code computes them (printed). Each theorem bears its conditions itself. -/
import Derived.Test.YtaachifkgcdeoaaLtDefs
import Derived.Test.YtaachifkgcdeoaaLtTab
import Derived.Test.YtaachifkgcdeoaaLtQlatQFirm
import Derived.Test.YtaachifkgcdeoaaLtQslicesQEqualQLuint16Quint16
import Derived.Test.YtaachifkgcdeoaaLtQlatQCheck
open Go Go.Proofs.Ytaachifkgcdeoaa.Sy Go.Proofs
set_option maxHeartbeats 4000000
set_option maxRecDepth 100000
set_option cbv.maxSteps 10000000
set_option linter.unusedVariables false
set_option linter.unusedSimpArgs false
namespace Go.Proofs.Ytaachifkgcdeoaa.Lt
theorem LatFirm_runs : SpecRuns Try.prog 4 (oSpec [.list (.int .u16)] [.v] [.bool] [.n] fun x => (LatFirm x.1).map fun r => (r, ())) := by
  obtain ⟨pg13, fg13, hs13, hc13, hi13, hd13⟩ := lat_Firm_sp
  obtain ⟨pg14, fg14, hs14, hc14, hi14, hd14⟩ := slices_Equal_Luint16_uint16_sp
  obtain ⟨pg9, fg9, hs9, hc9, hi9, hd9⟩ := lat_Check_sp
  have hsp : SpecsOk Try.prog [(13, ⟨[.list (.int .u16)], [.v], [.list (.int .u16), .int .i64], [.l .n, .n], pg13, fg13⟩), (14, ⟨[.list (.int .u16), .list (.int .u16)], [.v, .v], [.bool], [.n], pg14, fg14⟩), (9, ⟨[.list (.int .u16)], [.v], [.int .i64], [.n], pg9, fg9⟩)] := (specsOk_cons Try.func13 (by kernel_rfl) (by kernel_rfl) hs13 (specsOk_cons Try.func14 (by kernel_rfl) (by kernel_rfl) hs14 (specsOk_cons Try.func9 (by kernel_rfl) (by kernel_rfl) hs9 specsOk_nil)))
  refine runs_of_o tabOk Try.func4 rfl (Nat.le_of_ble_eq_true rfl) rfl ?_
  rintro E ⟨(t0_1 : List Int), ⟨⟩⟩ y hP H hw
  obtain ⟨z, H1, rfl⟩ := map_out H
  replace H : LatFirm t0_1 = some z := H1
  clear hw H1
  unfold LatFirm at H
  refine tr_keep [0] (σ' := mkSl 65 0 [(0, .val (.list (.int .u16)) .n t0_1)]) rfl ?_
  refine tr_seq ?_
  refine tr_rg hP tabOk hsp fun A hA M hM => ?_
  cbv
  refine hM _ ?_
  refine tr_seq ?_
  refine tr_seq ?_
  refine tr_keep [0] (σ' := mkSl 65 0 [(0, .val (.list (.int .u16)) .n t0_1)]) (by subst hA; rfl) ?_
  clear hM hA M A
  refine tr_rg hP tabOk hsp fun A hA M hM => ?_
  cbv
  obtain ⟨r_2, hr1, H⟩ := bind_out H
  obtain ⟨pq1, eq1⟩ := hc13 hr1
  refine ⟨by subst hA; subst eq1; exact pq1, hM _ ?_⟩
  refine tr_seq ?_
  refine tr_keep [0, 3, 4] (σ' := mkSl 65 0 [(0, .val (.list (.int .u16)) .n t0_1), (3, .val (.list (.int .u16)) (.l .n) r_2.1), (4, .val (.int .i64) .n r_2.2)]) (by subst hA; subst eq1; rfl) ?_
  clear pq1 eq1 hr1 hM hA M A
  refine tr_rg hP tabOk hsp fun A hA M hM => ?_
  cbv
  obtain ⟨r_3, er1, H⟩ := letO_out H
  obtain ⟨ob1, H⟩ := ck_out H
  have eq1 := er1.trans hd14
  refine ⟨by subst hA; subst eq1; exact fun h0 => hi14 (ob1 h0), hM _ ?_⟩
  refine tr_keep [0, 24] (σ' := mkSl 65 0 [(0, .val (.list (.int .u16)) .n t0_1), (24, .val (.bool) .n ((r_2.2 != (0 : Int)) || (!r_3)))]) (by subst hA; subst eq1; rfl) ?_
  clear ob1 eq1 er1 hM hA M A
  refine tr_cond rfl (fun hc => ?_) (fun hc => ?_)
  · replace H := if_t H hc
    refine tr_keep [0] (σ' := mkSl 65 0 [(0, .val (.list (.int .u16)) .n t0_1)]) rfl ?_
    refine tr_seq ?_
    refine tr_rg hP tabOk hsp fun A hA M hM => ?_
    cbv
    refine hM _ ?_
    refine tr_ret ?_
    have hr := Option.some.inj H
    subst hr
    subst hA
    exact rfl
  · replace H := if_f H hc
    refine tr_keep [0] (σ' := mkSl 65 0 [(0, .val (.list (.int .u16)) .n t0_1)]) rfl ?_
    refine tr_skip ?_
    refine tr_seq ?_
    refine tr_rg hP tabOk hsp fun A hA M hM => ?_
    cbv
    obtain ⟨r_4, hr1, H⟩ := bind_out H
    obtain ⟨pq1, eq1⟩ := hc13 hr1
    refine ⟨by subst hA; subst eq1; exact pq1, hM _ ?_⟩
    refine tr_seq ?_
    refine tr_seq ?_
    refine tr_keep [0, 5, 6] (σ' := mkSl 65 0 [(0, .val (.list (.int .u16)) .n t0_1), (5, .val (.list (.int .u16)) (.l .n) r_4.1), (6, .val (.int .i64) .n r_4.2)]) (by subst hA; subst eq1; rfl) ?_
    clear pq1 eq1 hr1 hM hA M A
    refine tr_rg hP tabOk hsp fun A hA M hM => ?_
    cbv
    refine hM _ ?_
    refine tr_keep [0, 5, 6, 31] (σ' := mkSl 65 0 [(0, .val (.list (.int .u16)) .n t0_1), (5, .val (.list (.int .u16)) (.l .n) r_4.1), (6, .val (.int .i64) .n r_4.2), (31, .val (.bool) .n (r_4.2 != (0 : Int)))]) (by subst hA; rfl) ?_
    clear hM hA M A
    refine tr_cond rfl (fun hc => ?_) (fun hc => ?_)
    · replace H := if_t H hc
      refine tr_keep [0, 5, 6] (σ' := mkSl 65 0 [(0, .val (.list (.int .u16)) .n t0_1), (5, .val (.list (.int .u16)) (.l .n) r_4.1), (6, .val (.int .i64) .n r_4.2)]) rfl ?_
      refine tr_seq ?_
      refine tr_rg hP tabOk hsp fun A hA M hM => ?_
      cbv
      obtain ⟨r_5, er1, H⟩ := letO_out H
      obtain ⟨ob1, H⟩ := ck_out H
      have eq1 := er1.trans hd9
      refine ⟨by subst hA; subst eq1; exact fun h0 => hi9 (ob1 h0), hM _ ?_⟩
      refine tr_ret ?_
      have hr := Option.some.inj H
      subst hr
      subst hA
      subst eq1
      exact rfl
    · replace H := if_f H hc
      refine tr_keep [0, 5, 6] (σ' := mkSl 65 0 [(0, .val (.list (.int .u16)) .n t0_1), (5, .val (.list (.int .u16)) (.l .n) r_4.1), (6, .val (.int .i64) .n r_4.2)]) rfl ?_
      refine tr_skip ?_
      refine tr_seq ?_
      refine tr_seq ?_
      refine tr_rg hP tabOk hsp fun A hA M hM => ?_
      cbv
      refine hM _ ?_
      refine tr_block ?_
      refine tr_keepL [5, 41, 42, 43] (fun t42_6 : Int => mkSl 65 0 [(5, .val (.list (.int .u16)) (.l .n) r_4.1), (41, .val (.list (.int .u16)) .n t0_1), (42, .val (.int .i64) .n t42_6), (43, .val (.int .i64) .n (0 : Int))]) H (by subst hA; rfl) (fun t42_6 H => ?_)
      clear hM hA M A
      obtain ⟨q, hq, Hl, Hr⟩ := bindE_out H
      refine tr_loopE 0 (fun x : Int => LatFirm_L1 t0_1 r_4 t42_6 x) (fun x : Int => mkSl 65 0 [(5, .val (.list (.int .u16)) (.l .n) r_4.1), (41, .val (.list (.int .u16)) .n t0_1), (42, .val (.int .i64) .n t42_6), (43, .val (.int .i64) .n x)]) [5, 41, 42, 43] (fun q_8 : Unit => mkSl 65 0 []) [] hq rfl Hr (fun q_8 hl σ' h => ?_) (fun x r1 H => ?_)
      · replace H := Hl q_8 hl
        refine tr_keep [] h ?_
        refine tr_seq ?_
        refine tr_rg hP tabOk hsp fun A hA M hM => ?_
        cbv
        refine hM _ ?_
        refine tr_ret ?_
        have hr := Option.some.inj H
        subst hr
        subst hA
        exact rfl
      · obtain ⟨t43_7, rfl⟩ : ∃ v, v = x := ⟨x, rfl⟩
        replace H : LatFirm_L1 t0_1 r_4 t42_6 t43_7 = some r1 := H
        unfold LatFirm_L1 at H
        refine tr_seq ?_
        refine tr_rg hP tabOk hsp fun A hA M hM => ?_
        cbv
        refine hM _ ?_
        refine tr_seq ?_
        refine tr_keep [5, 41, 42, 43, 44] (σ' := mkSl 65 0 [(5, .val (.list (.int .u16)) (.l .n) r_4.1), (41, .val (.list (.int .u16)) .n t0_1), (42, .val (.int .i64) .n t42_6), (43, .val (.int .i64) .n t43_7), (44, .val (.bool) .n (decide (t43_7 < t42_6)))]) (by subst hA; rfl) ?_
        clear hM hA M A
        refine tr_cond rfl (fun hc => ?_) (fun hc => ?_)
        · replace H := if_t H hc
          refine tr_keep [5, 41, 42, 43] (σ' := mkSl 65 0 [(5, .val (.list (.int .u16)) (.l .n) r_4.1), (41, .val (.list (.int .u16)) .n t0_1), (42, .val (.int .i64) .n t42_6), (43, .val (.int .i64) .n t43_7)]) rfl ?_
          refine tr_skip ?_
          refine tr_seq ?_
          refine tr_block ?_
          refine tr_seq ?_
          refine tr_rg hP tabOk hsp fun A hA M hM => ?_
          cbv
          obtain ⟨ob1, H⟩ := ck_out H
          refine ⟨by subst hA; exact ob1, hM _ ?_⟩
          refine tr_seq ?_
          refine tr_keepL [5, 8, 41, 42, 43] (fun t8_9 : Int => mkSl 65 0 [(5, .val (.list (.int .u16)) (.l .n) r_4.1), (8, .val (.int .u16) .n t8_9), (41, .val (.list (.int .u16)) .n t0_1), (42, .val (.int .i64) .n t42_6), (43, .val (.int .i64) .n t43_7)]) H (by subst hA; rfl) (fun t8_9 H => ?_)
          clear ob1 hM hA M A
          refine tr_rg hP tabOk hsp fun A hA M hM => ?_
          cbv
          refine hM _ ?_
          refine tr_seq ?_
          refine tr_seq ?_
          refine tr_keep [5, 8, 9, 41, 42, 43] (σ' := mkSl 65 0 [(5, .val (.list (.int .u16)) (.l .n) r_4.1), (8, .val (.int .u16) .n t8_9), (9, .val (.int .u16) .n (0 : Int)), (41, .val (.list (.int .u16)) .n t0_1), (42, .val (.int .i64) .n t42_6), (43, .val (.int .i64) .n t43_7)]) (by subst hA; rfl) ?_
          clear hM hA M A
          refine tr_rg hP tabOk hsp fun A hA M hM => ?_
          cbv
          refine hM _ ?_
          refine tr_block ?_
          refine tr_keepL [5, 8, 9, 41, 42, 43, 47, 48, 49] (fun t48_10 : Int => mkSl 65 0 [(5, .val (.list (.int .u16)) (.l .n) r_4.1), (8, .val (.int .u16) .n t8_9), (9, .val (.int .u16) .n (0 : Int)), (41, .val (.list (.int .u16)) .n t0_1), (42, .val (.int .i64) .n t42_6), (43, .val (.int .i64) .n t43_7), (47, .bor 5 []), (48, .val (.int .i64) .n t48_10), (49, .val (.int .i64) .n (0 : Int))]) H (by subst hA; rfl) (fun t48_10 H => ?_)
          clear hM hA M A
          obtain ⟨q_14, hq, H⟩ := bind_out H
          refine tr_loopB 2 (fun x : Int × Int => LatFirm_L2 r_4 t8_9 t48_10 x.1 x.2) (fun x : Int × Int => mkSl 65 0 [(5, .val (.list (.int .u16)) (.l .n) r_4.1), (8, .val (.int .u16) .n t8_9), (9, .val (.int .u16) .n x.1), (41, .val (.list (.int .u16)) .n t0_1), (42, .val (.int .i64) .n t42_6), (43, .val (.int .i64) .n t43_7), (47, .bor 5 []), (48, .val (.int .i64) .n t48_10), (49, .val (.int .i64) .n x.2)]) [5, 8, 9, 41, 42, 43, 47, 48, 49] (fun q_14 : Int => mkSl 65 0 [(5, .val (.list (.int .u16)) (.l .n) r_4.1), (8, .val (.int .u16) .n t8_9), (9, .val (.int .u16) .n q_14), (41, .val (.list (.int .u16)) .n t0_1), (42, .val (.int .i64) .n t42_6), (43, .val (.int .i64) .n t43_7)]) [5, 8, 9, 41, 42, 43] hq rfl (fun σ' h => ?_) (fun x r2 H => ?_)
          · refine tr_keep [5, 8, 9, 41, 42, 43] h ?_
            refine tr_seq ?_
            refine tr_rg hP tabOk hsp fun A hA M hM => ?_
            cbv
            refine hM _ ?_
            refine tr_keep [5, 41, 42, 43, 63] (σ' := mkSl 65 0 [(5, .val (.list (.int .u16)) (.l .n) r_4.1), (41, .val (.list (.int .u16)) .n t0_1), (42, .val (.int .i64) .n t42_6), (43, .val (.int .i64) .n t43_7), (63, .val (.bool) .n (q_14 != t8_9))]) (by subst hA; rfl) ?_
            clear hM hA M A
            refine tr_cond rfl (fun hc => ?_) (fun hc => ?_)
            · replace H := if_t H hc
              refine tr_keep [5, 41, 42, 43] (σ' := mkSl 65 0 [(5, .val (.list (.int .u16)) (.l .n) r_4.1), (41, .val (.list (.int .u16)) .n t0_1), (42, .val (.int .i64) .n t42_6), (43, .val (.int .i64) .n t43_7)]) rfl ?_
              refine tr_seq ?_
              refine tr_rg hP tabOk hsp fun A hA M hM => ?_
              cbv
              refine hM _ ?_
              refine tr_ret ?_
              have hr := Option.some.inj H
              refine Exists.intro _ (And.intro hr.symm (fun hr => ?_))
              subst hr
              subst hA
              exact rfl
            · replace H := if_f H hc
              refine tr_keep [5, 41, 42, 43] (σ' := mkSl 65 0 [(5, .val (.list (.int .u16)) (.l .n) r_4.1), (41, .val (.list (.int .u16)) .n t0_1), (42, .val (.int .i64) .n t42_6), (43, .val (.int .i64) .n t43_7)]) rfl ?_
              refine tr_skip ?_
              refine tr_rg hP tabOk hsp fun A hA M hM => ?_
              cbv
              refine hM _ ?_
              exact Exists.intro _ (And.intro (Option.some.inj H).symm (by subst hA; rfl))
          · obtain ⟨t9_11, t49_12⟩ := x
            replace H : LatFirm_L2 r_4 t8_9 t48_10 t9_11 t49_12 = some r2 := H
            unfold LatFirm_L2 at H
            refine tr_seq ?_
            refine tr_rg hP tabOk hsp fun A hA M hM => ?_
            cbv
            refine hM _ ?_
            refine tr_seq ?_
            refine tr_keep [5, 8, 9, 41, 42, 43, 47, 48, 49, 50] (σ' := mkSl 65 0 [(5, .val (.list (.int .u16)) (.l .n) r_4.1), (8, .val (.int .u16) .n t8_9), (9, .val (.int .u16) .n t9_11), (41, .val (.list (.int .u16)) .n t0_1), (42, .val (.int .i64) .n t42_6), (43, .val (.int .i64) .n t43_7), (47, .bor 5 []), (48, .val (.int .i64) .n t48_10), (49, .val (.int .i64) .n t49_12), (50, .val (.bool) .n (decide (t49_12 < t48_10)))]) (by subst hA; rfl) ?_
            clear hM hA M A
            refine tr_cond rfl (fun hc => ?_) (fun hc => ?_)
            · replace H := if_t H hc
              refine tr_keep [5, 8, 9, 41, 42, 43, 47, 48, 49] (σ' := mkSl 65 0 [(5, .val (.list (.int .u16)) (.l .n) r_4.1), (8, .val (.int .u16) .n t8_9), (9, .val (.int .u16) .n t9_11), (41, .val (.list (.int .u16)) .n t0_1), (42, .val (.int .i64) .n t42_6), (43, .val (.int .i64) .n t43_7), (47, .bor 5 []), (48, .val (.int .i64) .n t48_10), (49, .val (.int .i64) .n t49_12)]) rfl ?_
              refine tr_skip ?_
              refine tr_seq ?_
              refine tr_block ?_
              refine tr_seq ?_
              refine tr_rg hP tabOk hsp fun A hA M hM => ?_
              cbv
              obtain ⟨ob1, H⟩ := ck_out H
              refine ⟨by subst hA; exact ob1, hM _ ?_⟩
              refine tr_seq ?_
              refine tr_keepL [5, 8, 9, 11, 41, 42, 43, 47, 48, 49] (fun t11_15 : Int => mkSl 65 0 [(5, .val (.list (.int .u16)) (.l .n) r_4.1), (8, .val (.int .u16) .n t8_9), (9, .val (.int .u16) .n t9_11), (11, .val (.int .u16) .n t11_15), (41, .val (.list (.int .u16)) .n t0_1), (42, .val (.int .i64) .n t42_6), (43, .val (.int .i64) .n t43_7), (47, .bor 5 []), (48, .val (.int .i64) .n t48_10), (49, .val (.int .i64) .n t49_12)]) H (by subst hA; rfl) (fun t11_15 H => ?_)
              clear ob1 hM hA M A
              refine tr_rg hP tabOk hsp fun A hA M hM => ?_
              cbv
              refine hM _ ?_
              refine tr_keep [5, 8, 9, 11, 41, 42, 43, 47, 48, 49, 56] (σ' := mkSl 65 0 [(5, .val (.list (.int .u16)) (.l .n) r_4.1), (8, .val (.int .u16) .n t8_9), (9, .val (.int .u16) .n t9_11), (11, .val (.int .u16) .n t11_15), (41, .val (.list (.int .u16)) .n t0_1), (42, .val (.int .i64) .n t42_6), (43, .val (.int .i64) .n t43_7), (47, .bor 5 []), (48, .val (.int .i64) .n t48_10), (49, .val (.int .i64) .n t49_12), (56, .val (.bool) .n ((arR .andNot .u16 t11_15 t8_9) == (0 : Int)))]) (by subst hA; rfl) ?_
              clear hM hA M A
              refine tr_merge (fun y_17 : Int => mkSl 65 0 [(5, .val (.list (.int .u16)) (.l .n) r_4.1), (8, .val (.int .u16) .n t8_9), (9, .val (.int .u16) .n y_17), (41, .val (.list (.int .u16)) .n t0_1), (42, .val (.int .i64) .n t42_6), (43, .val (.int .i64) .n t43_7), (47, .bor 5 []), (48, .val (.int .i64) .n t48_10), (49, .val (.int .i64) .n t49_12)]) [5, 8, 9, 41, 42, 43, 47, 48, 49] H rfl (fun _ h => h) (fun y_17 H => ?_) (fun hc => ?_) (fun hc => ?_)
              · refine tr_rg hP tabOk hsp fun A hA M hM => ?_
                cbv
                refine hM _ ?_
                exact Exists.intro _ (And.intro (Option.some.inj H).symm (by subst hA; rfl))
              · refine tr_keep [5, 8, 9, 11, 41, 42, 43, 47, 48, 49] (σ' := mkSl 65 0 [(5, .val (.list (.int .u16)) (.l .n) r_4.1), (8, .val (.int .u16) .n t8_9), (9, .val (.int .u16) .n t9_11), (11, .val (.int .u16) .n t11_15), (41, .val (.list (.int .u16)) .n t0_1), (42, .val (.int .i64) .n t42_6), (43, .val (.int .i64) .n t43_7), (47, .bor 5 []), (48, .val (.int .i64) .n t48_10), (49, .val (.int .i64) .n t49_12)]) rfl ?_
                refine tr_rg hP tabOk hsp fun A hA M hM => ?_
                cbv
                refine hM _ ?_
                subst hA
                rfl
              · refine tr_keep [5, 8, 9, 11, 41, 42, 43, 47, 48, 49] (σ' := mkSl 65 0 [(5, .val (.list (.int .u16)) (.l .n) r_4.1), (8, .val (.int .u16) .n t8_9), (9, .val (.int .u16) .n t9_11), (11, .val (.int .u16) .n t11_15), (41, .val (.list (.int .u16)) .n t0_1), (42, .val (.int .i64) .n t42_6), (43, .val (.int .i64) .n t43_7), (47, .bor 5 []), (48, .val (.int .i64) .n t48_10), (49, .val (.int .i64) .n t49_12)]) rfl ?_
                refine tr_skip ?_
                rfl
            · replace H := if_f H hc
              refine tr_keep [5, 8, 9, 41, 42, 43, 47, 48, 49] (σ' := mkSl 65 0 [(5, .val (.list (.int .u16)) (.l .n) r_4.1), (8, .val (.int .u16) .n t8_9), (9, .val (.int .u16) .n t9_11), (41, .val (.list (.int .u16)) .n t0_1), (42, .val (.int .i64) .n t42_6), (43, .val (.int .i64) .n t43_7), (47, .bor 5 []), (48, .val (.int .i64) .n t48_10), (49, .val (.int .i64) .n t49_12)]) rfl ?_
              refine tr_exit ?_
              exact And.intro rfl (Exists.intro _ (And.intro (Option.some.inj H).symm (by rfl)))
        · replace H := if_f H hc
          refine tr_keep [5, 41, 42, 43] (σ' := mkSl 65 0 [(5, .val (.list (.int .u16)) (.l .n) r_4.1), (41, .val (.list (.int .u16)) .n t0_1), (42, .val (.int .i64) .n t42_6), (43, .val (.int .i64) .n t43_7)]) rfl ?_
          refine tr_exit ?_
          exact And.intro rfl (Exists.intro _ (And.intro (Option.some.inj H).symm (by rfl)))
theorem LatFirm_sp : ∃ (pg : PT.denL [.list (.int .u16)] → Prop) (fg : PT.denL [.list (.int .u16)] → PT.denL [.bool]), SpecRuns Try.prog 4 ⟨[.list (.int .u16)], [.v], [.bool], [.n], pg, fg⟩ ∧ (∀ {a1 : List Int} {y : Bool}, LatFirm a1 = some y → pg (a1, ()) ∧ y = (fg (a1, ())).1) ∧ (∀ {a1 : List Int}, (LatFirm a1).isSome = true → pg (a1, ())) ∧ ∀ {a1 : List Int}, (LatFirm a1).getD false = (fg (a1, ())).1 := by
  obtain ⟨pg, fg, h, hc, hi, hd⟩ := spec_hide LatFirm_runs
  refine ⟨pg, fg, h, ?_, ?_, ?_⟩
  · intro a1 y e
    obtain ⟨h1, h2⟩ := hc (a1, ()) (y, ()) (congrArg (Option.map fun r => (r, ())) e)
    exact ⟨h1, by first | (rw [h2]; done) | (rw [h2]; rfl)⟩
  · intro a1
    intro e
    exact hi (a1, ()) (map_isSome e)
  · intro a1
    rw [hd (a1, ())]
    cases LatFirm a1 <;> rfl
end Go.Proofs.Ytaachifkgcdeoaa.Lt
