/- Functions of the program as functions that may fail, and that the code computes them (printed). Each theorem bears its conditions itself. -/
import Derived.Test.YtcghecmefpldmaaVcDefs
import Derived.Test.YtcghecmefpldmaaVcTab
import Derived.Test.YtcghecmefpldmaaVcQstampQCheck
open Go Go.Proofs.Ytcghecmefpldmaa.Sy Go.Proofs
set_option maxHeartbeats 4000000
set_option maxRecDepth 100000
set_option cbv.maxSteps 10000000
set_option linter.unusedVariables false
set_option linter.unusedSimpArgs false
namespace Go.Proofs.Ytcghecmefpldmaa.Vc
theorem stamp_Ahead_runs : SpecRuns Try.prog 18 (oSpec [.list (.st [.int .i64, .int .i64, .int .i64])] [.v] [.list (.st [.int .i64, .int .i64]), .int .i64] [.l .n, .n] fun x => (stamp_Ahead x.1).map fun r => (r.1, r.2, ())) := by
  obtain ⟨pg29, fg29, hs29, hc29, hi29, hd29⟩ := stamp_Check_sp
  have hsp : SpecsOk Try.prog [(29, ⟨[.list (.st [.int .i64, .int .i64, .int .i64])], [.v], [.int .i64], [.n], pg29, fg29⟩)] := (specsOk_cons Try.func29 (by kernel_rfl) (by kernel_rfl) hs29 specsOk_nil)
  refine runs_of_o tabOk Try.func18 rfl (Nat.le_of_ble_eq_true rfl) rfl ?_
  rintro E ⟨(t0_1 : List ((Int × Int × Int × Unit))), ⟨⟩⟩ y hP H hw
  obtain ⟨z, H1, rfl⟩ := map_out H
  replace H : stamp_Ahead t0_1 = some z := H1
  clear hw H1
  unfold stamp_Ahead at H
  refine tr_keep [0] (σ' := mkSl 127 0 [(0, .val (.list (.st [.int .i64, .int .i64, .int .i64])) .n t0_1)]) rfl ?_
  refine tr_seq ?_
  refine tr_rg hP tabOk hsp fun A hA M hM => ?_
  cbv
  refine hM _ ?_
  refine tr_seq ?_
  refine tr_seq ?_
  refine tr_keep [0, 2] (σ' := mkSl 127 0 [(0, .val (.list (.st [.int .i64, .int .i64, .int .i64])) .n t0_1), (2, .val (.list (.st [.int .i64, .int .i64])) (.l .n) ([] : List ((Int × Int × Unit))))]) (by subst hA; rfl) ?_
  clear hM hA M A
  refine tr_rg hP tabOk hsp fun A hA M hM => ?_
  cbv
  obtain ⟨r_2, hr1, H⟩ := bind_out H
  obtain ⟨pq1, eq1⟩ := hc29 hr1
  refine ⟨by subst hA; subst eq1; exact pq1, hM _ ?_⟩
  refine tr_seq ?_
  refine tr_keep [0, 2, 4] (σ' := mkSl 127 0 [(0, .val (.list (.st [.int .i64, .int .i64, .int .i64])) .n t0_1), (2, .val (.list (.st [.int .i64, .int .i64])) (.l .n) ([] : List ((Int × Int × Unit)))), (4, .val (.int .i64) .n r_2)]) (by subst hA; subst eq1; rfl) ?_
  clear pq1 eq1 hr1 hM hA M A
  refine tr_rg hP tabOk hsp fun A hA M hM => ?_
  cbv
  refine hM _ ?_
  refine tr_keep [0, 2, 4, 17] (σ' := mkSl 127 0 [(0, .val (.list (.st [.int .i64, .int .i64, .int .i64])) .n t0_1), (2, .val (.list (.st [.int .i64, .int .i64])) (.l .n) ([] : List ((Int × Int × Unit)))), (4, .val (.int .i64) .n r_2), (17, .val (.bool) .n (r_2 != (0 : Int)))]) (by subst hA; rfl) ?_
  clear hM hA M A
  refine tr_cond rfl (fun hc => ?_) (fun hc => ?_)
  · replace H := if_t H hc
    refine tr_keep [0, 2, 4] (σ' := mkSl 127 0 [(0, .val (.list (.st [.int .i64, .int .i64, .int .i64])) .n t0_1), (2, .val (.list (.st [.int .i64, .int .i64])) (.l .n) ([] : List ((Int × Int × Unit)))), (4, .val (.int .i64) .n r_2)]) rfl ?_
    refine tr_seq ?_
    refine tr_rg hP tabOk hsp fun A hA M hM => ?_
    cbv
    refine hM _ ?_
    refine tr_ret ?_
    have hr := Option.some.inj H
    subst hr
    subst hA
    exact rfl
  · replace H := if_f H hc
    refine tr_keep [0, 2, 4] (σ' := mkSl 127 0 [(0, .val (.list (.st [.int .i64, .int .i64, .int .i64])) .n t0_1), (2, .val (.list (.st [.int .i64, .int .i64])) (.l .n) ([] : List ((Int × Int × Unit)))), (4, .val (.int .i64) .n r_2)]) rfl ?_
    refine tr_skip ?_
    refine tr_seq ?_
    refine tr_rg hP tabOk hsp fun A hA M hM => ?_
    cbv
    obtain ⟨ob1, H⟩ := ck_out H
    obtain ⟨ob2, H⟩ := ck_out H
    refine ⟨by subst hA; exact ob1, by subst hA; exact ob2, hM _ ?_⟩
    refine tr_seq ?_
    refine tr_seq ?_
    refine tr_keepL [0, 2, 5] (fun t5_3 : List (List Bool) => mkSl 127 0 [(0, .val (.list (.st [.int .i64, .int .i64, .int .i64])) .n t0_1), (2, .val (.list (.st [.int .i64, .int .i64])) (.l .n) ([] : List ((Int × Int × Unit)))), (5, .val (.list (.list (.bool))) (.l (.l .n)) t5_3)]) H (by subst hA; rfl) (fun t5_3 H => ?_)
    clear ob2 ob1 hM hA M A
    refine tr_rg hP tabOk hsp fun A hA M hM => ?_
    cbv
    refine hM _ ?_
    refine tr_block ?_
    refine tr_keepL [0, 2, 5, 22, 23, 24] (fun t23_4 : Int => mkSl 127 0 [(0, .val (.list (.st [.int .i64, .int .i64, .int .i64])) .n t0_1), (2, .val (.list (.st [.int .i64, .int .i64])) (.l .n) ([] : List ((Int × Int × Unit)))), (5, .val (.list (.list (.bool))) (.l (.l .n)) t5_3), (22, .val (.list (.st [.int .i64, .int .i64, .int .i64])) .n t0_1), (23, .val (.int .i64) .n t23_4), (24, .val (.int .i64) .n (0 : Int))]) H (by subst hA; rfl) (fun t23_4 H => ?_)
    clear hM hA M A
    obtain ⟨q_8, hq, H⟩ := bind_out H
    refine tr_loopB 0 (fun x : List (List Bool) × Int => stamp_Ahead_L1 t0_1 t23_4 x.1 x.2) (fun x : List (List Bool) × Int => mkSl 127 0 [(0, .val (.list (.st [.int .i64, .int .i64, .int .i64])) .n t0_1), (2, .val (.list (.st [.int .i64, .int .i64])) (.l .n) ([] : List ((Int × Int × Unit)))), (5, .val (.list (.list (.bool))) (.l (.l .n)) x.1), (22, .val (.list (.st [.int .i64, .int .i64, .int .i64])) .n t0_1), (23, .val (.int .i64) .n t23_4), (24, .val (.int .i64) .n x.2)]) [0, 2, 5, 22, 23, 24] (fun q_8 : List (List Bool) => mkSl 127 0 [(0, .val (.list (.st [.int .i64, .int .i64, .int .i64])) .n t0_1), (2, .val (.list (.st [.int .i64, .int .i64])) (.l .n) ([] : List ((Int × Int × Unit)))), (5, .val (.list (.list (.bool))) (.l (.l .n)) q_8)]) [0, 2, 5] hq rfl (fun σ' h => ?_) (fun x r1 H => ?_)
    · refine tr_keep [0, 2, 5] h ?_
      refine tr_seq ?_
      refine tr_rg hP tabOk hsp fun A hA M hM => ?_
      cbv
      refine hM _ ?_
      refine tr_seq ?_
      refine tr_seq ?_
      refine tr_keep [0, 2, 5, 11] (σ' := mkSl 127 0 [(0, .val (.list (.st [.int .i64, .int .i64, .int .i64])) .n t0_1), (2, .val (.list (.st [.int .i64, .int .i64])) (.l .n) ([] : List ((Int × Int × Unit)))), (5, .val (.list (.list (.bool))) (.l (.l .n)) q_8), (11, .val (.list (.st [.int .i64, .int .i64])) (.l .n) ([] : List ((Int × Int × Unit))))]) (by subst hA; rfl) ?_
      clear hM hA M A
      refine tr_rg hP tabOk hsp fun A hA M hM => ?_
      cbv
      refine hM _ ?_
      refine tr_block ?_
      refine tr_keepL [0, 2, 5, 11, 102, 103] (fun t102_25 : Int => mkSl 127 0 [(0, .val (.list (.st [.int .i64, .int .i64, .int .i64])) .n t0_1), (2, .val (.list (.st [.int .i64, .int .i64])) (.l .n) ([] : List ((Int × Int × Unit)))), (5, .val (.list (.list (.bool))) (.l (.l .n)) q_8), (11, .val (.list (.st [.int .i64, .int .i64])) (.l .n) ([] : List ((Int × Int × Unit)))), (102, .val (.int .i64) .n t102_25), (103, .val (.int .i64) .n (0 : Int))]) H (by subst hA; rfl) (fun t102_25 H => ?_)
      clear hM hA M A
      obtain ⟨q_29, hq, H⟩ := bind_out H
      refine tr_loopB 6 (fun x : List ((Int × Int × Unit)) × Int => stamp_Ahead_L5 t0_1 q_8 t102_25 x.1 x.2) (fun x : List ((Int × Int × Unit)) × Int => mkSl 127 0 [(0, .val (.list (.st [.int .i64, .int .i64, .int .i64])) .n t0_1), (2, .val (.list (.st [.int .i64, .int .i64])) (.l .n) ([] : List ((Int × Int × Unit)))), (5, .val (.list (.list (.bool))) (.l (.l .n)) q_8), (11, .val (.list (.st [.int .i64, .int .i64])) (.l .n) x.1), (102, .val (.int .i64) .n t102_25), (103, .val (.int .i64) .n x.2)]) [0, 2, 5, 11, 102, 103] (fun q_29 : List ((Int × Int × Unit)) => mkSl 127 0 [(2, .val (.list (.st [.int .i64, .int .i64])) (.l .n) ([] : List ((Int × Int × Unit)))), (11, .val (.list (.st [.int .i64, .int .i64])) (.l .n) q_29)]) [2, 11] hq rfl (fun σ' h => ?_) (fun x r5 H => ?_)
      · refine tr_keep [2, 11] h ?_
        refine tr_seq ?_
        refine tr_rg hP tabOk hsp fun A hA M hM => ?_
        cbv
        refine hM _ ?_
        refine tr_ret ?_
        have hr := Option.some.inj H
        subst hr
        subst hA
        exact rfl
      · obtain ⟨t11_26, t103_27⟩ := x
        replace H : stamp_Ahead_L5 t0_1 q_8 t102_25 t11_26 t103_27 = some r5 := H
        unfold stamp_Ahead_L5 at H
        refine tr_seq ?_
        refine tr_rg hP tabOk hsp fun A hA M hM => ?_
        cbv
        refine hM _ ?_
        refine tr_seq ?_
        refine tr_keep [0, 2, 5, 11, 102, 103, 104] (σ' := mkSl 127 0 [(0, .val (.list (.st [.int .i64, .int .i64, .int .i64])) .n t0_1), (2, .val (.list (.st [.int .i64, .int .i64])) (.l .n) ([] : List ((Int × Int × Unit)))), (5, .val (.list (.list (.bool))) (.l (.l .n)) q_8), (11, .val (.list (.st [.int .i64, .int .i64])) (.l .n) t11_26), (102, .val (.int .i64) .n t102_25), (103, .val (.int .i64) .n t103_27), (104, .val (.bool) .n (decide (t103_27 < t102_25)))]) (by subst hA; rfl) ?_
        clear hM hA M A
        refine tr_cond rfl (fun hc => ?_) (fun hc => ?_)
        · replace H := if_t H hc
          refine tr_keep [0, 2, 5, 11, 102, 103] (σ' := mkSl 127 0 [(0, .val (.list (.st [.int .i64, .int .i64, .int .i64])) .n t0_1), (2, .val (.list (.st [.int .i64, .int .i64])) (.l .n) ([] : List ((Int × Int × Unit)))), (5, .val (.list (.list (.bool))) (.l (.l .n)) q_8), (11, .val (.list (.st [.int .i64, .int .i64])) (.l .n) t11_26), (102, .val (.int .i64) .n t102_25), (103, .val (.int .i64) .n t103_27)]) rfl ?_
          refine tr_skip ?_
          refine tr_seq ?_
          refine tr_block ?_
          refine tr_seq ?_
          refine tr_rg hP tabOk hsp fun A hA M hM => ?_
          cbv
          refine hM _ ?_
          refine tr_seq ?_
          refine tr_keep [0, 2, 5, 11, 12, 102, 103] (σ' := mkSl 127 0 [(0, .val (.list (.st [.int .i64, .int .i64, .int .i64])) .n t0_1), (2, .val (.list (.st [.int .i64, .int .i64])) (.l .n) ([] : List ((Int × Int × Unit)))), (5, .val (.list (.list (.bool))) (.l (.l .n)) q_8), (11, .val (.list (.st [.int .i64, .int .i64])) (.l .n) t11_26), (12, .val (.int .i64) .n t103_27), (102, .val (.int .i64) .n t102_25), (103, .val (.int .i64) .n t103_27)]) (by subst hA; rfl) ?_
          clear hM hA M A
          refine tr_rg hP tabOk hsp fun A hA M hM => ?_
          cbv
          refine hM _ ?_
          refine tr_block ?_
          refine tr_keepL [0, 2, 5, 11, 12, 102, 103, 107, 108] (fun t107_30 : Int => mkSl 127 0 [(0, .val (.list (.st [.int .i64, .int .i64, .int .i64])) .n t0_1), (2, .val (.list (.st [.int .i64, .int .i64])) (.l .n) ([] : List ((Int × Int × Unit)))), (5, .val (.list (.list (.bool))) (.l (.l .n)) q_8), (11, .val (.list (.st [.int .i64, .int .i64])) (.l .n) t11_26), (12, .val (.int .i64) .n t103_27), (102, .val (.int .i64) .n t102_25), (103, .val (.int .i64) .n t103_27), (107, .val (.int .i64) .n t107_30), (108, .val (.int .i64) .n (0 : Int))]) H (by subst hA; rfl) (fun t107_30 H => ?_)
          clear hM hA M A
          obtain ⟨q_34, hq, H⟩ := bind_out H
          refine tr_loopB 8 (fun x : List ((Int × Int × Unit)) × Int => stamp_Ahead_L6 q_8 t103_27 t107_30 x.1 x.2) (fun x : List ((Int × Int × Unit)) × Int => mkSl 127 0 [(0, .val (.list (.st [.int .i64, .int .i64, .int .i64])) .n t0_1), (2, .val (.list (.st [.int .i64, .int .i64])) (.l .n) ([] : List ((Int × Int × Unit)))), (5, .val (.list (.list (.bool))) (.l (.l .n)) q_8), (11, .val (.list (.st [.int .i64, .int .i64])) (.l .n) x.1), (12, .val (.int .i64) .n t103_27), (102, .val (.int .i64) .n t102_25), (103, .val (.int .i64) .n t103_27), (107, .val (.int .i64) .n t107_30), (108, .val (.int .i64) .n x.2)]) [0, 2, 5, 11, 12, 102, 103, 107, 108] (fun q_34 : List ((Int × Int × Unit)) => mkSl 127 0 [(0, .val (.list (.st [.int .i64, .int .i64, .int .i64])) .n t0_1), (2, .val (.list (.st [.int .i64, .int .i64])) (.l .n) ([] : List ((Int × Int × Unit)))), (5, .val (.list (.list (.bool))) (.l (.l .n)) q_8), (11, .val (.list (.st [.int .i64, .int .i64])) (.l .n) q_34), (102, .val (.int .i64) .n t102_25), (103, .val (.int .i64) .n t103_27)]) [0, 2, 5, 11, 102, 103] hq rfl (fun σ' h => ?_) (fun x r6 H => ?_)
          · refine tr_keep [0, 2, 5, 11, 102, 103] h ?_
            refine tr_rg hP tabOk hsp fun A hA M hM => ?_
            cbv
            refine hM _ ?_
            exact Exists.intro _ (And.intro (Option.some.inj H).symm (by subst hA; rfl))
          · obtain ⟨t11_31, t108_32⟩ := x
            replace H : stamp_Ahead_L6 q_8 t103_27 t107_30 t11_31 t108_32 = some r6 := H
            unfold stamp_Ahead_L6 at H
            refine tr_seq ?_
            refine tr_rg hP tabOk hsp fun A hA M hM => ?_
            cbv
            refine hM _ ?_
            refine tr_seq ?_
            refine tr_keep [0, 2, 5, 11, 12, 102, 103, 107, 108, 109] (σ' := mkSl 127 0 [(0, .val (.list (.st [.int .i64, .int .i64, .int .i64])) .n t0_1), (2, .val (.list (.st [.int .i64, .int .i64])) (.l .n) ([] : List ((Int × Int × Unit)))), (5, .val (.list (.list (.bool))) (.l (.l .n)) q_8), (11, .val (.list (.st [.int .i64, .int .i64])) (.l .n) t11_31), (12, .val (.int .i64) .n t103_27), (102, .val (.int .i64) .n t102_25), (103, .val (.int .i64) .n t103_27), (107, .val (.int .i64) .n t107_30), (108, .val (.int .i64) .n t108_32), (109, .val (.bool) .n (decide (t108_32 < t107_30)))]) (by subst hA; rfl) ?_
            clear hM hA M A
            refine tr_cond rfl (fun hc => ?_) (fun hc => ?_)
            · replace H := if_t H hc
              refine tr_keep [0, 2, 5, 11, 12, 102, 103, 107, 108] (σ' := mkSl 127 0 [(0, .val (.list (.st [.int .i64, .int .i64, .int .i64])) .n t0_1), (2, .val (.list (.st [.int .i64, .int .i64])) (.l .n) ([] : List ((Int × Int × Unit)))), (5, .val (.list (.list (.bool))) (.l (.l .n)) q_8), (11, .val (.list (.st [.int .i64, .int .i64])) (.l .n) t11_31), (12, .val (.int .i64) .n t103_27), (102, .val (.int .i64) .n t102_25), (103, .val (.int .i64) .n t103_27), (107, .val (.int .i64) .n t107_30), (108, .val (.int .i64) .n t108_32)]) rfl ?_
              refine tr_skip ?_
              refine tr_seq ?_
              refine tr_block ?_
              refine tr_seq ?_
              refine tr_rg hP tabOk hsp fun A hA M hM => ?_
              cbv
              refine hM _ ?_
              refine tr_seq ?_
              refine tr_keep [0, 2, 5, 11, 12, 13, 102, 103, 107, 108] (σ' := mkSl 127 0 [(0, .val (.list (.st [.int .i64, .int .i64, .int .i64])) .n t0_1), (2, .val (.list (.st [.int .i64, .int .i64])) (.l .n) ([] : List ((Int × Int × Unit)))), (5, .val (.list (.list (.bool))) (.l (.l .n)) q_8), (11, .val (.list (.st [.int .i64, .int .i64])) (.l .n) t11_31), (12, .val (.int .i64) .n t103_27), (13, .val (.int .i64) .n t108_32), (102, .val (.int .i64) .n t102_25), (103, .val (.int .i64) .n t103_27), (107, .val (.int .i64) .n t107_30), (108, .val (.int .i64) .n t108_32)]) (by subst hA; rfl) ?_
              clear hM hA M A
              refine tr_rg hP tabOk hsp fun A hA M hM => ?_
              cbv
              obtain ⟨ob1, H⟩ := ck_out H
              obtain ⟨ob2, H⟩ := ck_out H
              refine ⟨by subst hA; exact ob1, by subst hA; exact ob2, hM _ ?_⟩
              refine tr_keep [0, 2, 5, 11, 12, 13, 102, 103, 107, 108, 117] (σ' := mkSl 127 0 [(0, .val (.list (.st [.int .i64, .int .i64, .int .i64])) .n t0_1), (2, .val (.list (.st [.int .i64, .int .i64])) (.l .n) ([] : List ((Int × Int × Unit)))), (5, .val (.list (.list (.bool))) (.l (.l .n)) q_8), (11, .val (.list (.st [.int .i64, .int .i64])) (.l .n) t11_31), (12, .val (.int .i64) .n t103_27), (13, .val (.int .i64) .n t108_32), (102, .val (.int .i64) .n t102_25), (103, .val (.int .i64) .n t103_27), (107, .val (.int .i64) .n t107_30), (108, .val (.int .i64) .n t108_32), (117, .val (.bool) .n ((q_8.getD t108_32.toNat ([] : List Bool)).getD t103_27.toNat false))]) (by subst hA; rfl) ?_
              clear ob2 ob1 hM hA M A
              refine tr_join (z := r6) (fun y : List ((Int × Int × Unit)) => stamp_Ahead_J7 t108_32 y) (fun y : List ((Int × Int × Unit)) => mkSl 127 0 [(0, .val (.list (.st [.int .i64, .int .i64, .int .i64])) .n t0_1), (2, .val (.list (.st [.int .i64, .int .i64])) (.l .n) ([] : List ((Int × Int × Unit)))), (5, .val (.list (.list (.bool))) (.l (.l .n)) q_8), (11, .val (.list (.st [.int .i64, .int .i64])) (.l .n) y), (12, .val (.int .i64) .n t103_27), (102, .val (.int .i64) .n t102_25), (103, .val (.int .i64) .n t103_27), (107, .val (.int .i64) .n t107_30), (108, .val (.int .i64) .n t108_32)]) [0, 2, 5, 11, 12, 102, 103, 107, 108] (fun _ h => h) (fun y H => ?_) (fun hJ7 => ?_)
              · obtain ⟨t11_35, rfl⟩ : ∃ v, v = y := ⟨y, rfl⟩
                replace H : stamp_Ahead_J7 t108_32 t11_35 = some r6 := H
                unfold stamp_Ahead_J7 at H
                refine tr_rg hP tabOk hsp fun A hA M hM => ?_
                cbv
                refine hM _ ?_
                exact Exists.intro _ (And.intro (Option.some.inj H).symm (by subst hA; rfl))
              · refine tr_cond rfl (fun hc => ?_) (fun hc => ?_)
                · replace H := if_t H hc
                  refine tr_keep [0, 2, 5, 11, 12, 13, 102, 103, 107, 108] (σ' := mkSl 127 0 [(0, .val (.list (.st [.int .i64, .int .i64, .int .i64])) .n t0_1), (2, .val (.list (.st [.int .i64, .int .i64])) (.l .n) ([] : List ((Int × Int × Unit)))), (5, .val (.list (.list (.bool))) (.l (.l .n)) q_8), (11, .val (.list (.st [.int .i64, .int .i64])) (.l .n) t11_31), (12, .val (.int .i64) .n t103_27), (13, .val (.int .i64) .n t108_32), (102, .val (.int .i64) .n t102_25), (103, .val (.int .i64) .n t103_27), (107, .val (.int .i64) .n t107_30), (108, .val (.int .i64) .n t108_32)]) rfl ?_
                  refine tr_rg hP tabOk hsp fun A hA M hM => ?_
                  cbv
                  obtain ⟨ob1, H⟩ := ck_out H
                  refine ⟨by subst hA; exact ob1, hM _ ?_⟩
                  exact hJ7 (t11_31 ++ [(t103_27, t108_32, ())]) _ H (by subst hA; rfl)
                · replace H := if_f H hc
                  refine tr_keep [0, 2, 5, 11, 12, 13, 102, 103, 107, 108] (σ' := mkSl 127 0 [(0, .val (.list (.st [.int .i64, .int .i64, .int .i64])) .n t0_1), (2, .val (.list (.st [.int .i64, .int .i64])) (.l .n) ([] : List ((Int × Int × Unit)))), (5, .val (.list (.list (.bool))) (.l (.l .n)) q_8), (11, .val (.list (.st [.int .i64, .int .i64])) (.l .n) t11_31), (12, .val (.int .i64) .n t103_27), (13, .val (.int .i64) .n t108_32), (102, .val (.int .i64) .n t102_25), (103, .val (.int .i64) .n t103_27), (107, .val (.int .i64) .n t107_30), (108, .val (.int .i64) .n t108_32)]) rfl ?_
                  refine tr_skip ?_
                  exact hJ7 t11_31 _ H (by rfl)
            · replace H := if_f H hc
              refine tr_keep [0, 2, 5, 11, 12, 102, 103, 107, 108] (σ' := mkSl 127 0 [(0, .val (.list (.st [.int .i64, .int .i64, .int .i64])) .n t0_1), (2, .val (.list (.st [.int .i64, .int .i64])) (.l .n) ([] : List ((Int × Int × Unit)))), (5, .val (.list (.list (.bool))) (.l (.l .n)) q_8), (11, .val (.list (.st [.int .i64, .int .i64])) (.l .n) t11_31), (12, .val (.int .i64) .n t103_27), (102, .val (.int .i64) .n t102_25), (103, .val (.int .i64) .n t103_27), (107, .val (.int .i64) .n t107_30), (108, .val (.int .i64) .n t108_32)]) rfl ?_
              refine tr_exit ?_
              exact And.intro rfl (Exists.intro _ (And.intro (Option.some.inj H).symm (by rfl)))
        · replace H := if_f H hc
          refine tr_keep [0, 2, 5, 11, 102, 103] (σ' := mkSl 127 0 [(0, .val (.list (.st [.int .i64, .int .i64, .int .i64])) .n t0_1), (2, .val (.list (.st [.int .i64, .int .i64])) (.l .n) ([] : List ((Int × Int × Unit)))), (5, .val (.list (.list (.bool))) (.l (.l .n)) q_8), (11, .val (.list (.st [.int .i64, .int .i64])) (.l .n) t11_26), (102, .val (.int .i64) .n t102_25), (103, .val (.int .i64) .n t103_27)]) rfl ?_
          refine tr_exit ?_
          exact And.intro rfl (Exists.intro _ (And.intro (Option.some.inj H).symm (by rfl)))
    · obtain ⟨t5_5, t24_6⟩ := x
      replace H : stamp_Ahead_L1 t0_1 t23_4 t5_5 t24_6 = some r1 := H
      unfold stamp_Ahead_L1 at H
      refine tr_seq ?_
      refine tr_rg hP tabOk hsp fun A hA M hM => ?_
      cbv
      refine hM _ ?_
      refine tr_seq ?_
      refine tr_keep [0, 2, 5, 22, 23, 24, 25] (σ' := mkSl 127 0 [(0, .val (.list (.st [.int .i64, .int .i64, .int .i64])) .n t0_1), (2, .val (.list (.st [.int .i64, .int .i64])) (.l .n) ([] : List ((Int × Int × Unit)))), (5, .val (.list (.list (.bool))) (.l (.l .n)) t5_5), (22, .val (.list (.st [.int .i64, .int .i64, .int .i64])) .n t0_1), (23, .val (.int .i64) .n t23_4), (24, .val (.int .i64) .n t24_6), (25, .val (.bool) .n (decide (t24_6 < t23_4)))]) (by subst hA; rfl) ?_
      clear hM hA M A
      refine tr_cond rfl (fun hc => ?_) (fun hc => ?_)
      · replace H := if_t H hc
        refine tr_keep [0, 2, 5, 22, 23, 24] (σ' := mkSl 127 0 [(0, .val (.list (.st [.int .i64, .int .i64, .int .i64])) .n t0_1), (2, .val (.list (.st [.int .i64, .int .i64])) (.l .n) ([] : List ((Int × Int × Unit)))), (5, .val (.list (.list (.bool))) (.l (.l .n)) t5_5), (22, .val (.list (.st [.int .i64, .int .i64, .int .i64])) .n t0_1), (23, .val (.int .i64) .n t23_4), (24, .val (.int .i64) .n t24_6)]) rfl ?_
        refine tr_skip ?_
        refine tr_seq ?_
        refine tr_block ?_
        refine tr_seq ?_
        refine tr_rg hP tabOk hsp fun A hA M hM => ?_
        cbv
        obtain ⟨ob1, H⟩ := ck_out H
        refine ⟨by subst hA; exact ob1, hM _ ?_⟩
        refine tr_seq ?_
        refine tr_keepL [0, 2, 5, 6, 7, 22, 23, 24] (fun t7_9 : (Int × Int × Int × Unit) => mkSl 127 0 [(0, .val (.list (.st [.int .i64, .int .i64, .int .i64])) .n t0_1), (2, .val (.list (.st [.int .i64, .int .i64])) (.l .n) ([] : List ((Int × Int × Unit)))), (5, .val (.list (.list (.bool))) (.l (.l .n)) t5_5), (6, .val (.int .i64) .n t24_6), (7, .val (.box (.st [.int .i64, .int .i64, .int .i64])) (.b .n) t7_9), (22, .val (.list (.st [.int .i64, .int .i64, .int .i64])) .n t0_1), (23, .val (.int .i64) .n t23_4), (24, .val (.int .i64) .n t24_6)]) H (by subst hA; rfl) (fun t7_9 H => ?_)
        clear ob1 hM hA M A
        refine tr_rg hP tabOk hsp fun A hA M hM => ?_
        cbv
        obtain ⟨ob1, H⟩ := ck_out H
        obtain ⟨ob2, H⟩ := ck_out H
        obtain ⟨ob3, H⟩ := ck_out H
        refine ⟨by subst hA; exact ob1, by subst hA; exact ob2, by subst hA; exact ob3, hM _ ?_⟩
        refine tr_seq ?_
        refine tr_keepL [0, 2, 5, 6, 7, 22, 23, 24] (fun t5_10 : List (List Bool) => mkSl 127 0 [(0, .val (.list (.st [.int .i64, .int .i64, .int .i64])) .n t0_1), (2, .val (.list (.st [.int .i64, .int .i64])) (.l .n) ([] : List ((Int × Int × Unit)))), (5, .val (.list (.list (.bool))) (.l (.l .n)) t5_10), (6, .val (.int .i64) .n t24_6), (7, .val (.box (.st [.int .i64, .int .i64, .int .i64])) (.b .n) t7_9), (22, .val (.list (.st [.int .i64, .int .i64, .int .i64])) .n t0_1), (23, .val (.int .i64) .n t23_4), (24, .val (.int .i64) .n t24_6)]) H (by subst hA; rfl) (fun t5_10 H => ?_)
        clear ob3 ob2 ob1 hM hA M A
        refine tr_rg hP tabOk hsp fun A hA M hM => ?_
        cbv
        obtain ⟨ob1, H⟩ := ck_out H
        refine ⟨by subst hA; exact ob1, hM _ ?_⟩
        refine tr_block ?_
        refine tr_keepL [0, 2, 5, 6, 7, 22, 23, 24, 37, 38, 39] (fun t37_11 : List ((Int × Int × Int × Unit)) => mkSl 127 0 [(0, .val (.list (.st [.int .i64, .int .i64, .int .i64])) .n t0_1), (2, .val (.list (.st [.int .i64, .int .i64])) (.l .n) ([] : List ((Int × Int × Unit)))), (5, .val (.list (.list (.bool))) (.l (.l .n)) t5_10), (6, .val (.int .i64) .n t24_6), (7, .val (.box (.st [.int .i64, .int .i64, .int .i64])) (.b .n) t7_9), (22, .val (.list (.st [.int .i64, .int .i64, .int .i64])) .n t0_1), (23, .val (.int .i64) .n t23_4), (24, .val (.int .i64) .n t24_6), (37, .val (.list (.st [.int .i64, .int .i64, .int .i64])) .n t37_11), (38, .val (.int .i64) .n ((t37_11.length : Int))), (39, .val (.int .i64) .n (0 : Int))]) H (by subst hA; rfl) (fun t37_11 H => ?_)
        refine tr_keepL [0, 2, 5, 6, 7, 22, 23, 24, 37, 38, 39] (fun t38_12 : Int => mkSl 127 0 [(0, .val (.list (.st [.int .i64, .int .i64, .int .i64])) .n t0_1), (2, .val (.list (.st [.int .i64, .int .i64])) (.l .n) ([] : List ((Int × Int × Unit)))), (5, .val (.list (.list (.bool))) (.l (.l .n)) t5_10), (6, .val (.int .i64) .n t24_6), (7, .val (.box (.st [.int .i64, .int .i64, .int .i64])) (.b .n) t7_9), (22, .val (.list (.st [.int .i64, .int .i64, .int .i64])) .n t0_1), (23, .val (.int .i64) .n t23_4), (24, .val (.int .i64) .n t24_6), (37, .val (.list (.st [.int .i64, .int .i64, .int .i64])) .n t37_11), (38, .val (.int .i64) .n t38_12), (39, .val (.int .i64) .n (0 : Int))]) H (by rfl) (fun t38_12 H => ?_)
        clear ob1 hM hA M A
        obtain ⟨q_16, hq, H⟩ := bind_out H
        refine tr_loopB 2 (fun x : List (List Bool) × Int => stamp_Ahead_L2 t24_6 t7_9 t37_11 t38_12 x.1 x.2) (fun x : List (List Bool) × Int => mkSl 127 0 [(0, .val (.list (.st [.int .i64, .int .i64, .int .i64])) .n t0_1), (2, .val (.list (.st [.int .i64, .int .i64])) (.l .n) ([] : List ((Int × Int × Unit)))), (5, .val (.list (.list (.bool))) (.l (.l .n)) x.1), (6, .val (.int .i64) .n t24_6), (7, .val (.box (.st [.int .i64, .int .i64, .int .i64])) (.b .n) t7_9), (22, .val (.list (.st [.int .i64, .int .i64, .int .i64])) .n t0_1), (23, .val (.int .i64) .n t23_4), (24, .val (.int .i64) .n t24_6), (37, .val (.list (.st [.int .i64, .int .i64, .int .i64])) .n t37_11), (38, .val (.int .i64) .n t38_12), (39, .val (.int .i64) .n x.2)]) [0, 2, 5, 6, 7, 22, 23, 24, 37, 38, 39] (fun q_16 : List (List Bool) => mkSl 127 0 [(0, .val (.list (.st [.int .i64, .int .i64, .int .i64])) .n t0_1), (2, .val (.list (.st [.int .i64, .int .i64])) (.l .n) ([] : List ((Int × Int × Unit)))), (5, .val (.list (.list (.bool))) (.l (.l .n)) q_16), (22, .val (.list (.st [.int .i64, .int .i64, .int .i64])) .n t0_1), (23, .val (.int .i64) .n t23_4), (24, .val (.int .i64) .n t24_6)]) [0, 2, 5, 22, 23, 24] hq rfl (fun σ' h => ?_) (fun x r2 H => ?_)
        · refine tr_keep [0, 2, 5, 22, 23, 24] h ?_
          refine tr_rg hP tabOk hsp fun A hA M hM => ?_
          cbv
          refine hM _ ?_
          exact Exists.intro _ (And.intro (Option.some.inj H).symm (by subst hA; rfl))
        · obtain ⟨t5_13, t39_14⟩ := x
          replace H : stamp_Ahead_L2 t24_6 t7_9 t37_11 t38_12 t5_13 t39_14 = some r2 := H
          unfold stamp_Ahead_L2 at H
          refine tr_seq ?_
          refine tr_rg hP tabOk hsp fun A hA M hM => ?_
          cbv
          refine hM _ ?_
          refine tr_seq ?_
          refine tr_keep [0, 2, 5, 6, 7, 22, 23, 24, 37, 38, 39, 40] (σ' := mkSl 127 0 [(0, .val (.list (.st [.int .i64, .int .i64, .int .i64])) .n t0_1), (2, .val (.list (.st [.int .i64, .int .i64])) (.l .n) ([] : List ((Int × Int × Unit)))), (5, .val (.list (.list (.bool))) (.l (.l .n)) t5_13), (6, .val (.int .i64) .n t24_6), (7, .val (.box (.st [.int .i64, .int .i64, .int .i64])) (.b .n) t7_9), (22, .val (.list (.st [.int .i64, .int .i64, .int .i64])) .n t0_1), (23, .val (.int .i64) .n t23_4), (24, .val (.int .i64) .n t24_6), (37, .val (.list (.st [.int .i64, .int .i64, .int .i64])) .n t37_11), (38, .val (.int .i64) .n t38_12), (39, .val (.int .i64) .n t39_14), (40, .val (.bool) .n (decide (t39_14 < t38_12)))]) (by subst hA; rfl) ?_
          clear hM hA M A
          refine tr_cond rfl (fun hc => ?_) (fun hc => ?_)
          · replace H := if_t H hc
            refine tr_keep [0, 2, 5, 6, 7, 22, 23, 24, 37, 38, 39] (σ' := mkSl 127 0 [(0, .val (.list (.st [.int .i64, .int .i64, .int .i64])) .n t0_1), (2, .val (.list (.st [.int .i64, .int .i64])) (.l .n) ([] : List ((Int × Int × Unit)))), (5, .val (.list (.list (.bool))) (.l (.l .n)) t5_13), (6, .val (.int .i64) .n t24_6), (7, .val (.box (.st [.int .i64, .int .i64, .int .i64])) (.b .n) t7_9), (22, .val (.list (.st [.int .i64, .int .i64, .int .i64])) .n t0_1), (23, .val (.int .i64) .n t23_4), (24, .val (.int .i64) .n t24_6), (37, .val (.list (.st [.int .i64, .int .i64, .int .i64])) .n t37_11), (38, .val (.int .i64) .n t38_12), (39, .val (.int .i64) .n t39_14)]) rfl ?_
            refine tr_skip ?_
            refine tr_seq ?_
            refine tr_block ?_
            refine tr_seq ?_
            refine tr_rg hP tabOk hsp fun A hA M hM => ?_
            cbv
            obtain ⟨ob1, H⟩ := ck_out H
            refine ⟨by subst hA; exact ob1, hM _ ?_⟩
            refine tr_seq ?_
            refine tr_keepL [0, 2, 5, 6, 7, 8, 9, 22, 23, 24, 37, 38, 39] (fun t9_17 : (Int × Int × Int × Unit) => mkSl 127 0 [(0, .val (.list (.st [.int .i64, .int .i64, .int .i64])) .n t0_1), (2, .val (.list (.st [.int .i64, .int .i64])) (.l .n) ([] : List ((Int × Int × Unit)))), (5, .val (.list (.list (.bool))) (.l (.l .n)) t5_13), (6, .val (.int .i64) .n t24_6), (7, .val (.box (.st [.int .i64, .int .i64, .int .i64])) (.b .n) t7_9), (8, .val (.int .i64) .n t39_14), (9, .val (.box (.st [.int .i64, .int .i64, .int .i64])) (.b .n) t9_17), (22, .val (.list (.st [.int .i64, .int .i64, .int .i64])) .n t0_1), (23, .val (.int .i64) .n t23_4), (24, .val (.int .i64) .n t24_6), (37, .val (.list (.st [.int .i64, .int .i64, .int .i64])) .n t37_11), (38, .val (.int .i64) .n t38_12), (39, .val (.int .i64) .n t39_14)]) H (by subst hA; rfl) (fun t9_17 H => ?_)
            clear ob1 hM hA M A
            refine tr_rg hP tabOk hsp fun A hA M hM => ?_
            cbv
            refine hM _ ?_
            refine tr_keep [0, 2, 5, 6, 7, 8, 22, 23, 24, 37, 38, 39, 65] (σ' := mkSl 127 0 [(0, .val (.list (.st [.int .i64, .int .i64, .int .i64])) .n t0_1), (2, .val (.list (.st [.int .i64, .int .i64])) (.l .n) ([] : List ((Int × Int × Unit)))), (5, .val (.list (.list (.bool))) (.l (.l .n)) t5_13), (6, .val (.int .i64) .n t24_6), (7, .val (.box (.st [.int .i64, .int .i64, .int .i64])) (.b .n) t7_9), (8, .val (.int .i64) .n t39_14), (22, .val (.list (.st [.int .i64, .int .i64, .int .i64])) .n t0_1), (23, .val (.int .i64) .n t23_4), (24, .val (.int .i64) .n t24_6), (37, .val (.list (.st [.int .i64, .int .i64, .int .i64])) .n t37_11), (38, .val (.int .i64) .n t38_12), (39, .val (.int .i64) .n t39_14), (65, .val (.bool) .n ((t9_17.1 == t7_9.1) || (((t7_9.2.1 == (3 : Int)) && (t9_17.2.1 == (2 : Int))) && (t9_17.2.2.1 == t7_9.2.2.1))))]) (by subst hA; rfl) ?_
            clear hM hA M A
            refine tr_join (z := r2) (fun y : List (List Bool) => stamp_Ahead_J3 t39_14 y) (fun y : List (List Bool) => mkSl 127 0 [(0, .val (.list (.st [.int .i64, .int .i64, .int .i64])) .n t0_1), (2, .val (.list (.st [.int .i64, .int .i64])) (.l .n) ([] : List ((Int × Int × Unit)))), (5, .val (.list (.list (.bool))) (.l (.l .n)) y), (6, .val (.int .i64) .n t24_6), (7, .val (.box (.st [.int .i64, .int .i64, .int .i64])) (.b .n) t7_9), (22, .val (.list (.st [.int .i64, .int .i64, .int .i64])) .n t0_1), (23, .val (.int .i64) .n t23_4), (24, .val (.int .i64) .n t24_6), (37, .val (.list (.st [.int .i64, .int .i64, .int .i64])) .n t37_11), (38, .val (.int .i64) .n t38_12), (39, .val (.int .i64) .n t39_14)]) [0, 2, 5, 6, 7, 22, 23, 24, 37, 38, 39] (fun _ h => h) (fun y H => ?_) (fun hJ3 => ?_)
            · obtain ⟨t5_18, rfl⟩ : ∃ v, v = y := ⟨y, rfl⟩
              replace H : stamp_Ahead_J3 t39_14 t5_18 = some r2 := H
              unfold stamp_Ahead_J3 at H
              refine tr_rg hP tabOk hsp fun A hA M hM => ?_
              cbv
              refine hM _ ?_
              exact Exists.intro _ (And.intro (Option.some.inj H).symm (by subst hA; rfl))
            · refine tr_cond rfl (fun hc => ?_) (fun hc => ?_)
              · replace H := if_t H hc
                refine tr_keep [0, 2, 5, 6, 7, 8, 22, 23, 24, 37, 38, 39] (σ' := mkSl 127 0 [(0, .val (.list (.st [.int .i64, .int .i64, .int .i64])) .n t0_1), (2, .val (.list (.st [.int .i64, .int .i64])) (.l .n) ([] : List ((Int × Int × Unit)))), (5, .val (.list (.list (.bool))) (.l (.l .n)) t5_13), (6, .val (.int .i64) .n t24_6), (7, .val (.box (.st [.int .i64, .int .i64, .int .i64])) (.b .n) t7_9), (8, .val (.int .i64) .n t39_14), (22, .val (.list (.st [.int .i64, .int .i64, .int .i64])) .n t0_1), (23, .val (.int .i64) .n t23_4), (24, .val (.int .i64) .n t24_6), (37, .val (.list (.st [.int .i64, .int .i64, .int .i64])) .n t37_11), (38, .val (.int .i64) .n t38_12), (39, .val (.int .i64) .n t39_14)]) rfl ?_
                refine tr_seq ?_
                refine tr_rg hP tabOk hsp fun A hA M hM => ?_
                cbv
                obtain ⟨ob1, H⟩ := ck_out H
                obtain ⟨ob2, H⟩ := ck_out H
                refine ⟨by subst hA; exact ob1, by subst hA; exact ob2, hM _ ?_⟩
                refine tr_seq ?_
                refine tr_keepL [0, 2, 5, 6, 7, 8, 22, 23, 24, 37, 38, 39] (fun t5_19 : List (List Bool) => mkSl 127 0 [(0, .val (.list (.st [.int .i64, .int .i64, .int .i64])) .n t0_1), (2, .val (.list (.st [.int .i64, .int .i64])) (.l .n) ([] : List ((Int × Int × Unit)))), (5, .val (.list (.list (.bool))) (.l (.l .n)) t5_19), (6, .val (.int .i64) .n t24_6), (7, .val (.box (.st [.int .i64, .int .i64, .int .i64])) (.b .n) t7_9), (8, .val (.int .i64) .n t39_14), (22, .val (.list (.st [.int .i64, .int .i64, .int .i64])) .n t0_1), (23, .val (.int .i64) .n t23_4), (24, .val (.int .i64) .n t24_6), (37, .val (.list (.st [.int .i64, .int .i64, .int .i64])) .n t37_11), (38, .val (.int .i64) .n t38_12), (39, .val (.int .i64) .n t39_14)]) H (by subst hA; rfl) (fun t5_19 H => ?_)
                clear ob2 ob1 hM hA M A
                refine tr_rg hP tabOk hsp fun A hA M hM => ?_
                cbv
                refine hM _ ?_
                refine tr_block ?_
                refine tr_keep [0, 2, 5, 6, 7, 8, 22, 23, 24, 37, 38, 39, 72, 73] (σ' := mkSl 127 0 [(0, .val (.list (.st [.int .i64, .int .i64, .int .i64])) .n t0_1), (2, .val (.list (.st [.int .i64, .int .i64])) (.l .n) ([] : List ((Int × Int × Unit)))), (5, .val (.list (.list (.bool))) (.l (.l .n)) t5_19), (6, .val (.int .i64) .n t24_6), (7, .val (.box (.st [.int .i64, .int .i64, .int .i64])) (.b .n) t7_9), (8, .val (.int .i64) .n t39_14), (22, .val (.list (.st [.int .i64, .int .i64, .int .i64])) .n t0_1), (23, .val (.int .i64) .n t23_4), (24, .val (.int .i64) .n t24_6), (37, .val (.list (.st [.int .i64, .int .i64, .int .i64])) .n t37_11), (38, .val (.int .i64) .n t38_12), (39, .val (.int .i64) .n t39_14), (72, .val (.int .i64) .n t39_14), (73, .val (.int .i64) .n (0 : Int))]) (by subst hA; rfl) ?_
                clear hM hA M A
                obtain ⟨q_23, hq, H⟩ := bind_out H
                refine tr_loopB 4 (fun x : List (List Bool) × Int => stamp_Ahead_L4 t24_6 t39_14 x.1 x.2) (fun x : List (List Bool) × Int => mkSl 127 0 [(0, .val (.list (.st [.int .i64, .int .i64, .int .i64])) .n t0_1), (2, .val (.list (.st [.int .i64, .int .i64])) (.l .n) ([] : List ((Int × Int × Unit)))), (5, .val (.list (.list (.bool))) (.l (.l .n)) x.1), (6, .val (.int .i64) .n t24_6), (7, .val (.box (.st [.int .i64, .int .i64, .int .i64])) (.b .n) t7_9), (8, .val (.int .i64) .n t39_14), (22, .val (.list (.st [.int .i64, .int .i64, .int .i64])) .n t0_1), (23, .val (.int .i64) .n t23_4), (24, .val (.int .i64) .n t24_6), (37, .val (.list (.st [.int .i64, .int .i64, .int .i64])) .n t37_11), (38, .val (.int .i64) .n t38_12), (39, .val (.int .i64) .n t39_14), (72, .val (.int .i64) .n t39_14), (73, .val (.int .i64) .n x.2)]) [0, 2, 5, 6, 7, 8, 22, 23, 24, 37, 38, 39, 72, 73] (fun q_23 : List (List Bool) => mkSl 127 0 [(0, .val (.list (.st [.int .i64, .int .i64, .int .i64])) .n t0_1), (2, .val (.list (.st [.int .i64, .int .i64])) (.l .n) ([] : List ((Int × Int × Unit)))), (5, .val (.list (.list (.bool))) (.l (.l .n)) q_23), (6, .val (.int .i64) .n t24_6), (7, .val (.box (.st [.int .i64, .int .i64, .int .i64])) (.b .n) t7_9), (22, .val (.list (.st [.int .i64, .int .i64, .int .i64])) .n t0_1), (23, .val (.int .i64) .n t23_4), (24, .val (.int .i64) .n t24_6), (37, .val (.list (.st [.int .i64, .int .i64, .int .i64])) .n t37_11), (38, .val (.int .i64) .n t38_12), (39, .val (.int .i64) .n t39_14)]) [0, 2, 5, 6, 7, 22, 23, 24, 37, 38, 39] hq rfl (fun σ' h => ?_) (fun x r4 H => ?_)
                · exact hJ3 q_23 _ H (by rw [← keep_sub (ks2 := [0, 2, 5, 6, 7, 22, 23, 24, 37, 38, 39]) (subB_out rfl), h]; rfl)
                · obtain ⟨t5_20, t73_21⟩ := x
                  replace H : stamp_Ahead_L4 t24_6 t39_14 t5_20 t73_21 = some r4 := H
                  unfold stamp_Ahead_L4 at H
                  refine tr_seq ?_
                  refine tr_rg hP tabOk hsp fun A hA M hM => ?_
                  cbv
                  refine hM _ ?_
                  refine tr_seq ?_
                  refine tr_keep [0, 2, 5, 6, 7, 8, 22, 23, 24, 37, 38, 39, 72, 73, 74] (σ' := mkSl 127 0 [(0, .val (.list (.st [.int .i64, .int .i64, .int .i64])) .n t0_1), (2, .val (.list (.st [.int .i64, .int .i64])) (.l .n) ([] : List ((Int × Int × Unit)))), (5, .val (.list (.list (.bool))) (.l (.l .n)) t5_20), (6, .val (.int .i64) .n t24_6), (7, .val (.box (.st [.int .i64, .int .i64, .int .i64])) (.b .n) t7_9), (8, .val (.int .i64) .n t39_14), (22, .val (.list (.st [.int .i64, .int .i64, .int .i64])) .n t0_1), (23, .val (.int .i64) .n t23_4), (24, .val (.int .i64) .n t24_6), (37, .val (.list (.st [.int .i64, .int .i64, .int .i64])) .n t37_11), (38, .val (.int .i64) .n t38_12), (39, .val (.int .i64) .n t39_14), (72, .val (.int .i64) .n t39_14), (73, .val (.int .i64) .n t73_21), (74, .val (.bool) .n (decide (t73_21 < t39_14)))]) (by subst hA; rfl) ?_
                  clear hM hA M A
                  refine tr_cond rfl (fun hc => ?_) (fun hc => ?_)
                  · replace H := if_t H hc
                    refine tr_keep [0, 2, 5, 6, 7, 8, 22, 23, 24, 37, 38, 39, 72, 73] (σ' := mkSl 127 0 [(0, .val (.list (.st [.int .i64, .int .i64, .int .i64])) .n t0_1), (2, .val (.list (.st [.int .i64, .int .i64])) (.l .n) ([] : List ((Int × Int × Unit)))), (5, .val (.list (.list (.bool))) (.l (.l .n)) t5_20), (6, .val (.int .i64) .n t24_6), (7, .val (.box (.st [.int .i64, .int .i64, .int .i64])) (.b .n) t7_9), (8, .val (.int .i64) .n t39_14), (22, .val (.list (.st [.int .i64, .int .i64, .int .i64])) .n t0_1), (23, .val (.int .i64) .n t23_4), (24, .val (.int .i64) .n t24_6), (37, .val (.list (.st [.int .i64, .int .i64, .int .i64])) .n t37_11), (38, .val (.int .i64) .n t38_12), (39, .val (.int .i64) .n t39_14), (72, .val (.int .i64) .n t39_14), (73, .val (.int .i64) .n t73_21)]) rfl ?_
                    refine tr_skip ?_
                    refine tr_seq ?_
                    refine tr_block ?_
                    refine tr_seq ?_
                    refine tr_rg hP tabOk hsp fun A hA M hM => ?_
                    cbv
                    refine hM _ ?_
                    refine tr_keep [0, 2, 5, 6, 7, 8, 10, 22, 23, 24, 37, 38, 39, 72, 73] (σ' := mkSl 127 0 [(0, .val (.list (.st [.int .i64, .int .i64, .int .i64])) .n t0_1), (2, .val (.list (.st [.int .i64, .int .i64])) (.l .n) ([] : List ((Int × Int × Unit)))), (5, .val (.list (.list (.bool))) (.l (.l .n)) t5_20), (6, .val (.int .i64) .n t24_6), (7, .val (.box (.st [.int .i64, .int .i64, .int .i64])) (.b .n) t7_9), (8, .val (.int .i64) .n t39_14), (10, .val (.int .i64) .n t73_21), (22, .val (.list (.st [.int .i64, .int .i64, .int .i64])) .n t0_1), (23, .val (.int .i64) .n t23_4), (24, .val (.int .i64) .n t24_6), (37, .val (.list (.st [.int .i64, .int .i64, .int .i64])) .n t37_11), (38, .val (.int .i64) .n t38_12), (39, .val (.int .i64) .n t39_14), (72, .val (.int .i64) .n t39_14), (73, .val (.int .i64) .n t73_21)]) (by subst hA; rfl) ?_
                    clear hM hA M A
                    refine tr_rg hP tabOk hsp fun A hA M hM => ?_
                    cbv
                    obtain ⟨ob1, H⟩ := ck_out H
                    obtain ⟨ob2, H⟩ := ck_out H
                    obtain ⟨ob3, H⟩ := ck_out H
                    obtain ⟨ob4, H⟩ := ck_out H
                    obtain ⟨ob5, H⟩ := ck_out H
                    obtain ⟨ob6, H⟩ := ck_out H
                    refine ⟨by subst hA; exact ob1, by subst hA; exact ob2, by subst hA; exact ob3, by subst hA; exact ob4, by subst hA; exact ob5, by subst hA; exact ob6, hM _ ?_⟩
                    refine tr_keepL [0, 2, 5, 6, 7, 8, 22, 23, 24, 37, 38, 39, 72, 73] (fun t5_24 : List (List Bool) => mkSl 127 0 [(0, .val (.list (.st [.int .i64, .int .i64, .int .i64])) .n t0_1), (2, .val (.list (.st [.int .i64, .int .i64])) (.l .n) ([] : List ((Int × Int × Unit)))), (5, .val (.list (.list (.bool))) (.l (.l .n)) t5_24), (6, .val (.int .i64) .n t24_6), (7, .val (.box (.st [.int .i64, .int .i64, .int .i64])) (.b .n) t7_9), (8, .val (.int .i64) .n t39_14), (22, .val (.list (.st [.int .i64, .int .i64, .int .i64])) .n t0_1), (23, .val (.int .i64) .n t23_4), (24, .val (.int .i64) .n t24_6), (37, .val (.list (.st [.int .i64, .int .i64, .int .i64])) .n t37_11), (38, .val (.int .i64) .n t38_12), (39, .val (.int .i64) .n t39_14), (72, .val (.int .i64) .n t39_14), (73, .val (.int .i64) .n t73_21)]) H (by subst hA; rfl) (fun t5_24 H => ?_)
                    clear ob6 ob5 ob4 ob3 ob2 ob1 hM hA M A
                    refine tr_rg hP tabOk hsp fun A hA M hM => ?_
                    cbv
                    refine hM _ ?_
                    exact Exists.intro _ (And.intro (Option.some.inj H).symm (by subst hA; rfl))
                  · replace H := if_f H hc
                    refine tr_keep [0, 2, 5, 6, 7, 8, 22, 23, 24, 37, 38, 39, 72, 73] (σ' := mkSl 127 0 [(0, .val (.list (.st [.int .i64, .int .i64, .int .i64])) .n t0_1), (2, .val (.list (.st [.int .i64, .int .i64])) (.l .n) ([] : List ((Int × Int × Unit)))), (5, .val (.list (.list (.bool))) (.l (.l .n)) t5_20), (6, .val (.int .i64) .n t24_6), (7, .val (.box (.st [.int .i64, .int .i64, .int .i64])) (.b .n) t7_9), (8, .val (.int .i64) .n t39_14), (22, .val (.list (.st [.int .i64, .int .i64, .int .i64])) .n t0_1), (23, .val (.int .i64) .n t23_4), (24, .val (.int .i64) .n t24_6), (37, .val (.list (.st [.int .i64, .int .i64, .int .i64])) .n t37_11), (38, .val (.int .i64) .n t38_12), (39, .val (.int .i64) .n t39_14), (72, .val (.int .i64) .n t39_14), (73, .val (.int .i64) .n t73_21)]) rfl ?_
                    refine tr_exit ?_
                    exact And.intro rfl (Exists.intro _ (And.intro (Option.some.inj H).symm (by rfl)))
              · replace H := if_f H hc
                refine tr_keep [0, 2, 5, 6, 7, 8, 22, 23, 24, 37, 38, 39] (σ' := mkSl 127 0 [(0, .val (.list (.st [.int .i64, .int .i64, .int .i64])) .n t0_1), (2, .val (.list (.st [.int .i64, .int .i64])) (.l .n) ([] : List ((Int × Int × Unit)))), (5, .val (.list (.list (.bool))) (.l (.l .n)) t5_13), (6, .val (.int .i64) .n t24_6), (7, .val (.box (.st [.int .i64, .int .i64, .int .i64])) (.b .n) t7_9), (8, .val (.int .i64) .n t39_14), (22, .val (.list (.st [.int .i64, .int .i64, .int .i64])) .n t0_1), (23, .val (.int .i64) .n t23_4), (24, .val (.int .i64) .n t24_6), (37, .val (.list (.st [.int .i64, .int .i64, .int .i64])) .n t37_11), (38, .val (.int .i64) .n t38_12), (39, .val (.int .i64) .n t39_14)]) rfl ?_
                refine tr_skip ?_
                exact hJ3 t5_13 _ H (by rfl)
          · replace H := if_f H hc
            refine tr_keep [0, 2, 5, 6, 7, 22, 23, 24, 37, 38, 39] (σ' := mkSl 127 0 [(0, .val (.list (.st [.int .i64, .int .i64, .int .i64])) .n t0_1), (2, .val (.list (.st [.int .i64, .int .i64])) (.l .n) ([] : List ((Int × Int × Unit)))), (5, .val (.list (.list (.bool))) (.l (.l .n)) t5_13), (6, .val (.int .i64) .n t24_6), (7, .val (.box (.st [.int .i64, .int .i64, .int .i64])) (.b .n) t7_9), (22, .val (.list (.st [.int .i64, .int .i64, .int .i64])) .n t0_1), (23, .val (.int .i64) .n t23_4), (24, .val (.int .i64) .n t24_6), (37, .val (.list (.st [.int .i64, .int .i64, .int .i64])) .n t37_11), (38, .val (.int .i64) .n t38_12), (39, .val (.int .i64) .n t39_14)]) rfl ?_
            refine tr_exit ?_
            exact And.intro rfl (Exists.intro _ (And.intro (Option.some.inj H).symm (by rfl)))
      · replace H := if_f H hc
        refine tr_keep [0, 2, 5, 22, 23, 24] (σ' := mkSl 127 0 [(0, .val (.list (.st [.int .i64, .int .i64, .int .i64])) .n t0_1), (2, .val (.list (.st [.int .i64, .int .i64])) (.l .n) ([] : List ((Int × Int × Unit)))), (5, .val (.list (.list (.bool))) (.l (.l .n)) t5_5), (22, .val (.list (.st [.int .i64, .int .i64, .int .i64])) .n t0_1), (23, .val (.int .i64) .n t23_4), (24, .val (.int .i64) .n t24_6)]) rfl ?_
        refine tr_exit ?_
        exact And.intro rfl (Exists.intro _ (And.intro (Option.some.inj H).symm (by rfl)))
theorem stamp_Ahead_sp : ∃ (pg : PT.denL [.list (.st [.int .i64, .int .i64, .int .i64])] → Prop) (fg : PT.denL [.list (.st [.int .i64, .int .i64, .int .i64])] → PT.denL [.list (.st [.int .i64, .int .i64]), .int .i64]), SpecRuns Try.prog 18 ⟨[.list (.st [.int .i64, .int .i64, .int .i64])], [.v], [.list (.st [.int .i64, .int .i64]), .int .i64], [.l .n, .n], pg, fg⟩ ∧ (∀ {a1 : List ((Int × Int × Int × Unit))} {y : List ((Int × Int × Unit)) × Int}, stamp_Ahead a1 = some y → pg (a1, ()) ∧ y = ((fg (a1, ())).1, (fg (a1, ())).2.1)) ∧ (∀ {a1 : List ((Int × Int × Int × Unit))}, (stamp_Ahead a1).isSome = true → pg (a1, ())) ∧ ∀ {a1 : List ((Int × Int × Int × Unit))}, (stamp_Ahead a1).getD (([] : List ((Int × Int × Unit))), (0 : Int)) = ((fg (a1, ())).1, (fg (a1, ())).2.1) := by
  obtain ⟨pg, fg, h, hc, hi, hd⟩ := spec_hide stamp_Ahead_runs
  refine ⟨pg, fg, h, ?_, ?_, ?_⟩
  · intro a1 y e
    obtain ⟨h1, h2⟩ := hc (a1, ()) (y.1, y.2, ()) (congrArg (Option.map fun r => (r.1, r.2, ())) e)
    exact ⟨h1, by first | (rw [h2]; done) | (rw [h2]; rfl)⟩
  · intro a1
    intro e
    exact hi (a1, ()) (map_isSome e)
  · intro a1
    rw [hd (a1, ())]
    cases stamp_Ahead a1 <;> rfl
end Go.Proofs.Ytcghecmefpldmaa.Vc
