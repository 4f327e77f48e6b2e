/- Functions of the program as functions that may fail, and that the code computes them (printed). Each theorem bears its conditions itself. -/
import Derived.Test.YtcghecmefpldmaaVcDefs
import Derived.Test.YtcghecmefpldmaaVcTab
import Derived.Test.YtcghecmefpldmaaVcStampStamps
import Derived.Test.YtcghecmefpldmaaVcSlicesEqualLintInt
import Derived.Test.YtcghecmefpldmaaVcRRest
open Go Go.Proofs.Ytcghecmefpldmaa.Sy Go.Proofs
set_option maxHeartbeats 4000000
set_option maxRecDepth 100000
set_option linter.unusedVariables false
set_option linter.unusedSimpArgs false
namespace Go.Proofs.Ytcghecmefpldmaa.Vc
theorem StampBound_runs : SpecRuns Try.prog 7 (oSpec [.list (.st [.int .i64, .int .i64, .int .i64]), .int .i64] [.v, .v] [.bool] [.n] fun x => (StampBound x.1 x.2.1).map fun r => (r, ())) := by
  obtain ⟨pg17, fg17, hs17, hc17, hi17, hd17⟩ := stamp_Stamps_sp
  obtain ⟨pg20, fg20, hs20, hc20, hi20, hd20⟩ := slices_Equal_Lint_int_sp
  obtain ⟨pg21, fg21, hs21, hc21, hi21, hd21⟩ := R_Rest_sp
  have hsp : SpecsOk Try.prog [(17, ⟨[.list (.st [.int .i64, .int .i64, .int .i64])], [.v], [.list (.int .i64), .int .i64], [.l .n, .n], pg17, fg17⟩), (20, ⟨[.list (.int .i64), .list (.int .i64)], [.v, .v], [.bool], [.n], pg20, fg20⟩), (21, ⟨[.int .i64, .int .i64], [.v, .v], [.int .i64], [.n], pg21, fg21⟩)] := (specsOk_cons Try.func17 (by kernel_rfl) (by kernel_rfl) hs17 (specsOk_cons Try.func20 (by kernel_rfl) (by kernel_rfl) hs20 (specsOk_cons Try.func21 (by kernel_rfl) (by kernel_rfl) hs21 specsOk_nil)))
  refine runs_of_o tabOk Try.func7 rfl (Nat.le_of_ble_eq_true rfl) rfl ?_
  rintro E ⟨(t0_1 : List ((Int × Int × Int × Unit))), (t1_2 : Int), ⟨⟩⟩ y hP H hw
  obtain ⟨z, H1, rfl⟩ := map_out H
  replace H : StampBound t0_1 t1_2 = some z := H1
  clear hw H1
  unfold StampBound at H
  refine tr_keep [0, 1] (σ' := mkSl 103 0 [(0, .val (.list (.st [.int .i64, .int .i64, .int .i64])) .n t0_1), (1, .val (.int .i64) .n t1_2)]) rfl ?_
  refine tr_seq ?_
  refine tr_rg hP tabOk hsp fun A hA M hM => ?_
  cbv
  refine hM _ ?_
  refine tr_seq ?_
  refine tr_seq ?_
  refine tr_keep [0, 1] (σ' := mkSl 103 0 [(0, .val (.list (.st [.int .i64, .int .i64, .int .i64])) .n t0_1), (1, .val (.int .i64) .n t1_2)]) (by subst hA; rfl) ?_
  clear hM hA M A
  refine tr_rg hP tabOk hsp fun A hA M hM => ?_
  cbv
  obtain ⟨r_3, hr1, H⟩ := bind_out H
  obtain ⟨pq1, eq1⟩ := hc17 hr1
  refine ⟨by subst hA; subst eq1; exact pq1, hM _ ?_⟩
  refine tr_seq ?_
  refine tr_keep [0, 1, 5, 6] (σ' := mkSl 103 0 [(0, .val (.list (.st [.int .i64, .int .i64, .int .i64])) .n t0_1), (1, .val (.int .i64) .n t1_2), (5, .val (.list (.int .i64)) (.l .n) r_3.1), (6, .val (.int .i64) .n r_3.2)]) (by subst hA; subst eq1; rfl) ?_
  clear pq1 eq1 hr1 hM hA M A
  refine tr_rg hP tabOk hsp fun A hA M hM => ?_
  cbv
  obtain ⟨r_4, er1, H⟩ := letO_out H
  obtain ⟨ob1, H⟩ := ck_out H
  have eq1 := er1.trans hd20
  refine ⟨by subst hA; subst eq1; exact fun h0 => hi20 (ob1 h0), hM _ ?_⟩
  refine tr_keep [0, 1, 31] (σ' := mkSl 103 0 [(0, .val (.list (.st [.int .i64, .int .i64, .int .i64])) .n t0_1), (1, .val (.int .i64) .n t1_2), (31, .val (.bool) .n ((r_3.2 != (0 : Int)) || (!r_4)))]) (by subst hA; subst eq1; rfl) ?_
  clear ob1 eq1 er1 hM hA M A
  refine tr_cond rfl (fun hc => ?_) (fun hc => ?_)
  · replace H := if_t H hc
    refine tr_keep [0, 1] (σ' := mkSl 103 0 [(0, .val (.list (.st [.int .i64, .int .i64, .int .i64])) .n t0_1), (1, .val (.int .i64) .n t1_2)]) rfl ?_
    refine tr_seq ?_
    refine tr_rg hP tabOk hsp fun A hA M hM => ?_
    cbv
    refine hM _ ?_
    refine tr_ret ?_
    have hr := Option.some.inj H
    subst hr
    subst hA
    exact rfl
  · replace H := if_f H hc
    refine tr_keep [0, 1] (σ' := mkSl 103 0 [(0, .val (.list (.st [.int .i64, .int .i64, .int .i64])) .n t0_1), (1, .val (.int .i64) .n t1_2)]) rfl ?_
    refine tr_skip ?_
    refine tr_seq ?_
    refine tr_rg hP tabOk hsp fun A hA M hM => ?_
    cbv
    obtain ⟨r_5, hr1, H⟩ := bind_out H
    obtain ⟨pq1, eq1⟩ := hc17 hr1
    refine ⟨by subst hA; subst eq1; exact pq1, hM _ ?_⟩
    refine tr_seq ?_
    refine tr_seq ?_
    refine tr_keep [0, 1, 7, 8] (σ' := mkSl 103 0 [(0, .val (.list (.st [.int .i64, .int .i64, .int .i64])) .n t0_1), (1, .val (.int .i64) .n t1_2), (7, .val (.list (.int .i64)) (.l .n) r_5.1), (8, .val (.int .i64) .n r_5.2)]) (by subst hA; subst eq1; rfl) ?_
    clear pq1 eq1 hr1 hM hA M A
    refine tr_rg hP tabOk hsp fun A hA M hM => ?_
    cbv
    refine hM _ ?_
    refine tr_block ?_
    refine tr_keepL [0, 1, 7, 8, 37, 38, 39] (fun t38_6 : Int => mkSl 103 0 [(0, .val (.list (.st [.int .i64, .int .i64, .int .i64])) .n t0_1), (1, .val (.int .i64) .n t1_2), (7, .val (.list (.int .i64)) (.l .n) r_5.1), (8, .val (.int .i64) .n r_5.2), (37, .bor 7 []), (38, .val (.int .i64) .n t38_6), (39, .val (.int .i64) .n (0 : Int))]) H (by subst hA; rfl) (fun t38_6 H => ?_)
    clear hM hA M A
    obtain ⟨q, hq, Hl, Hr⟩ := bindE_out H
    refine tr_loopE 0 (fun x : Int => StampBound_L1 r_5 t38_6 x) (fun x : Int => mkSl 103 0 [(0, .val (.list (.st [.int .i64, .int .i64, .int .i64])) .n t0_1), (1, .val (.int .i64) .n t1_2), (7, .val (.list (.int .i64)) (.l .n) r_5.1), (8, .val (.int .i64) .n r_5.2), (37, .bor 7 []), (38, .val (.int .i64) .n t38_6), (39, .val (.int .i64) .n x)]) [0, 1, 7, 8, 37, 38, 39] (fun q_8 : Unit => mkSl 103 0 [(0, .val (.list (.st [.int .i64, .int .i64, .int .i64])) .n t0_1), (1, .val (.int .i64) .n t1_2), (7, .val (.list (.int .i64)) (.l .n) r_5.1), (8, .val (.int .i64) .n r_5.2)]) [0, 1, 7, 8] hq rfl Hr (fun q_8 hl σ' h => ?_) (fun x r1 H => ?_)
    · replace H := Hl q_8 hl
      refine tr_keep [0, 1, 7, 8] h ?_
      refine tr_seq ?_
      refine tr_rg hP tabOk hsp fun A hA M hM => ?_
      cbv
      obtain ⟨r_10, hr1, H⟩ := bind_out H
      obtain ⟨pq1, eq1⟩ := hc21 hr1
      obtain ⟨ob2, H⟩ := ck_out H
      obtain ⟨ob3, H⟩ := ck_out H
      refine ⟨by subst hA; subst eq1; exact pq1, by subst hA; subst eq1; exact ob2, by subst hA; subst eq1; exact ob3, hM _ ?_⟩
      refine tr_seq ?_
      refine tr_seq ?_
      refine tr_keepL [0, 7, 8, 11] (fun t11_11 : List ((Int × Int × Int × Unit)) => mkSl 103 0 [(0, .val (.list (.st [.int .i64, .int .i64, .int .i64])) .n t0_1), (7, .val (.list (.int .i64)) (.l .n) r_5.1), (8, .val (.int .i64) .n r_5.2), (11, .val (.list (.st [.int .i64, .int .i64, .int .i64])) (.l .n) t11_11)]) H (by subst hA; subst eq1; rfl) (fun t11_11 H => ?_)
      clear ob3 ob2 pq1 eq1 hr1 hM hA M A
      refine tr_rg hP tabOk hsp fun A hA M hM => ?_
      cbv
      refine hM _ ?_
      refine tr_block ?_
      refine tr_keepL [0, 7, 8, 11, 57, 58] (fun t57_12 : Int => mkSl 103 0 [(0, .val (.list (.st [.int .i64, .int .i64, .int .i64])) .n t0_1), (7, .val (.list (.int .i64)) (.l .n) r_5.1), (8, .val (.int .i64) .n r_5.2), (11, .val (.list (.st [.int .i64, .int .i64, .int .i64])) (.l .n) t11_11), (57, .val (.int .i64) .n t57_12), (58, .val (.int .i64) .n (0 : Int))]) H (by subst hA; rfl) (fun t57_12 H => ?_)
      clear hM hA M A
      obtain ⟨q_16, hq, H⟩ := bind_out H
      refine tr_loopB 2 (fun x : List ((Int × Int × Int × Unit)) × Int => StampBound_L2 t57_12 x.1 x.2) (fun x : List ((Int × Int × Int × Unit)) × Int => mkSl 103 0 [(0, .val (.list (.st [.int .i64, .int .i64, .int .i64])) .n t0_1), (7, .val (.list (.int .i64)) (.l .n) r_5.1), (8, .val (.int .i64) .n r_5.2), (11, .val (.list (.st [.int .i64, .int .i64, .int .i64])) (.l .n) x.1), (57, .val (.int .i64) .n t57_12), (58, .val (.int .i64) .n x.2)]) [0, 7, 8, 11, 57, 58] (fun q_16 : List ((Int × Int × Int × Unit)) => mkSl 103 0 [(0, .val (.list (.st [.int .i64, .int .i64, .int .i64])) .n t0_1), (7, .val (.list (.int .i64)) (.l .n) r_5.1), (8, .val (.int .i64) .n r_5.2), (11, .val (.list (.st [.int .i64, .int .i64, .int .i64])) (.l .n) q_16)]) [0, 7, 8, 11] hq rfl (fun σ' h => ?_) (fun x r2 H => ?_)
      · refine tr_keep [0, 7, 8, 11] h ?_
        refine tr_seq ?_
        refine tr_rg hP tabOk hsp fun A hA M hM => ?_
        cbv
        obtain ⟨r_18, hr1, H⟩ := bind_out H
        obtain ⟨pq1, eq1⟩ := hc17 hr1
        refine ⟨by subst hA; subst eq1; exact pq1, hM _ ?_⟩
        refine tr_seq ?_
        refine tr_seq ?_
        refine tr_keep [0, 7, 8, 11, 13, 14] (σ' := mkSl 103 0 [(0, .val (.list (.st [.int .i64, .int .i64, .int .i64])) .n t0_1), (7, .val (.list (.int .i64)) (.l .n) r_5.1), (8, .val (.int .i64) .n r_5.2), (11, .val (.list (.st [.int .i64, .int .i64, .int .i64])) (.l .n) q_16), (13, .val (.list (.int .i64)) (.l .n) r_18.1), (14, .val (.int .i64) .n r_18.2)]) (by subst hA; subst eq1; rfl) ?_
        clear pq1 eq1 hr1 hM hA M A
        refine tr_rg hP tabOk hsp fun A hA M hM => ?_
        cbv
        refine hM _ ?_
        refine tr_block ?_
        refine tr_keepL [0, 7, 8, 11, 13, 14, 71, 72, 73] (fun t72_19 : Int => mkSl 103 0 [(0, .val (.list (.st [.int .i64, .int .i64, .int .i64])) .n t0_1), (7, .val (.list (.int .i64)) (.l .n) r_5.1), (8, .val (.int .i64) .n r_5.2), (11, .val (.list (.st [.int .i64, .int .i64, .int .i64])) (.l .n) q_16), (13, .val (.list (.int .i64)) (.l .n) r_18.1), (14, .val (.int .i64) .n r_18.2), (71, .bor 13 []), (72, .val (.int .i64) .n t72_19), (73, .val (.int .i64) .n (0 : Int))]) H (by subst hA; rfl) (fun t72_19 H => ?_)
        clear hM hA M A
        obtain ⟨q, hq, Hl, Hr⟩ := bindE_out H
        refine tr_loopE 4 (fun x : Int => StampBound_L3 r_18 t72_19 x) (fun x : Int => mkSl 103 0 [(0, .val (.list (.st [.int .i64, .int .i64, .int .i64])) .n t0_1), (7, .val (.list (.int .i64)) (.l .n) r_5.1), (8, .val (.int .i64) .n r_5.2), (11, .val (.list (.st [.int .i64, .int .i64, .int .i64])) (.l .n) q_16), (13, .val (.list (.int .i64)) (.l .n) r_18.1), (14, .val (.int .i64) .n r_18.2), (71, .bor 13 []), (72, .val (.int .i64) .n t72_19), (73, .val (.int .i64) .n x)]) [0, 7, 8, 11, 13, 14, 71, 72, 73] (fun q_21 : Unit => mkSl 103 0 [(0, .val (.list (.st [.int .i64, .int .i64, .int .i64])) .n t0_1), (7, .val (.list (.int .i64)) (.l .n) r_5.1), (8, .val (.int .i64) .n r_5.2), (11, .val (.list (.st [.int .i64, .int .i64, .int .i64])) (.l .n) q_16), (13, .val (.list (.int .i64)) (.l .n) r_18.1), (14, .val (.int .i64) .n r_18.2)]) [0, 7, 8, 11, 13, 14] hq rfl Hr (fun q_21 hl σ' h => ?_) (fun x r3 H => ?_)
        · replace H := Hl q_21 hl
          refine tr_keep [0, 7, 8, 11, 13, 14] h ?_
          refine tr_seq ?_
          refine tr_rg hP tabOk hsp fun A hA M hM => ?_
          cbv
          refine hM _ ?_
          refine tr_ret ?_
          have hr := Option.some.inj H
          subst hr
          subst hA
          exact rfl
        · obtain ⟨t73_20, rfl⟩ : ∃ v, v = x := ⟨x, rfl⟩
          replace H : StampBound_L3 r_18 t72_19 t73_20 = some r3 := H
          unfold StampBound_L3 at H
          refine tr_seq ?_
          refine tr_rg hP tabOk hsp fun A hA M hM => ?_
          cbv
          refine hM _ ?_
          refine tr_seq ?_
          refine tr_keep [0, 7, 8, 11, 13, 14, 71, 72, 73, 74] (σ' := mkSl 103 0 [(0, .val (.list (.st [.int .i64, .int .i64, .int .i64])) .n t0_1), (7, .val (.list (.int .i64)) (.l .n) r_5.1), (8, .val (.int .i64) .n r_5.2), (11, .val (.list (.st [.int .i64, .int .i64, .int .i64])) (.l .n) q_16), (13, .val (.list (.int .i64)) (.l .n) r_18.1), (14, .val (.int .i64) .n r_18.2), (71, .bor 13 []), (72, .val (.int .i64) .n t72_19), (73, .val (.int .i64) .n t73_20), (74, .val (.bool) .n (decide (t73_20 < t72_19)))]) (by subst hA; rfl) ?_
          clear hM hA M A
          refine tr_cond rfl (fun hc => ?_) (fun hc => ?_)
          · replace H := if_t H hc
            refine tr_keep [0, 7, 8, 11, 13, 14, 71, 72, 73] (σ' := mkSl 103 0 [(0, .val (.list (.st [.int .i64, .int .i64, .int .i64])) .n t0_1), (7, .val (.list (.int .i64)) (.l .n) r_5.1), (8, .val (.int .i64) .n r_5.2), (11, .val (.list (.st [.int .i64, .int .i64, .int .i64])) (.l .n) q_16), (13, .val (.list (.int .i64)) (.l .n) r_18.1), (14, .val (.int .i64) .n r_18.2), (71, .bor 13 []), (72, .val (.int .i64) .n t72_19), (73, .val (.int .i64) .n t73_20)]) rfl ?_
            refine tr_skip ?_
            refine tr_seq ?_
            refine tr_block ?_
            refine tr_seq ?_
            refine tr_rg hP tabOk hsp fun A hA M hM => ?_
            cbv
            obtain ⟨ob1, H⟩ := ck_out H
            refine ⟨by subst hA; exact ob1, hM _ ?_⟩
            refine tr_seq ?_
            refine tr_keepL [0, 7, 8, 11, 13, 14, 15, 16, 71, 72, 73] (fun t16_22 : Int => mkSl 103 0 [(0, .val (.list (.st [.int .i64, .int .i64, .int .i64])) .n t0_1), (7, .val (.list (.int .i64)) (.l .n) r_5.1), (8, .val (.int .i64) .n r_5.2), (11, .val (.list (.st [.int .i64, .int .i64, .int .i64])) (.l .n) q_16), (13, .val (.list (.int .i64)) (.l .n) r_18.1), (14, .val (.int .i64) .n r_18.2), (15, .val (.int .i64) .n t73_20), (16, .val (.int .i64) .n t16_22), (71, .bor 13 []), (72, .val (.int .i64) .n t72_19), (73, .val (.int .i64) .n t73_20)]) H (by subst hA; rfl) (fun t16_22 H => ?_)
            clear ob1 hM hA M A
            refine tr_rg hP tabOk hsp fun A hA M hM => ?_
            cbv
            refine hM _ ?_
            refine tr_keep [0, 7, 8, 11, 13, 14, 71, 72, 73, 81] (σ' := mkSl 103 0 [(0, .val (.list (.st [.int .i64, .int .i64, .int .i64])) .n t0_1), (7, .val (.list (.int .i64)) (.l .n) r_5.1), (8, .val (.int .i64) .n r_5.2), (11, .val (.list (.st [.int .i64, .int .i64, .int .i64])) (.l .n) q_16), (13, .val (.list (.int .i64)) (.l .n) r_18.1), (14, .val (.int .i64) .n r_18.2), (71, .bor 13 []), (72, .val (.int .i64) .n t72_19), (73, .val (.int .i64) .n t73_20), (81, .val (.bool) .n (t16_22 != (arR .add .i64 t73_20 (1 : Int))))]) (by subst hA; rfl) ?_
            clear hM hA M A
            refine tr_cond rfl (fun hc => ?_) (fun hc => ?_)
            · replace H := if_t H hc
              refine tr_keep [0, 7, 8, 11, 13, 14, 71, 72, 73] (σ' := mkSl 103 0 [(0, .val (.list (.st [.int .i64, .int .i64, .int .i64])) .n t0_1), (7, .val (.list (.int .i64)) (.l .n) r_5.1), (8, .val (.int .i64) .n r_5.2), (11, .val (.list (.st [.int .i64, .int .i64, .int .i64])) (.l .n) q_16), (13, .val (.list (.int .i64)) (.l .n) r_18.1), (14, .val (.int .i64) .n r_18.2), (71, .bor 13 []), (72, .val (.int .i64) .n t72_19), (73, .val (.int .i64) .n t73_20)]) rfl ?_
              refine tr_seq ?_
              refine tr_rg hP tabOk hsp fun A hA M hM => ?_
              cbv
              refine hM _ ?_
              refine tr_ret ?_
              have hr := Option.some.inj H
              refine Exists.intro _ (And.intro hr.symm (fun hr => ?_))
              subst hr
              subst hA
              exact rfl
            · replace H := if_f H hc
              refine tr_keep [0, 7, 8, 11, 13, 14, 71, 72, 73] (σ' := mkSl 103 0 [(0, .val (.list (.st [.int .i64, .int .i64, .int .i64])) .n t0_1), (7, .val (.list (.int .i64)) (.l .n) r_5.1), (8, .val (.int .i64) .n r_5.2), (11, .val (.list (.st [.int .i64, .int .i64, .int .i64])) (.l .n) q_16), (13, .val (.list (.int .i64)) (.l .n) r_18.1), (14, .val (.int .i64) .n r_18.2), (71, .bor 13 []), (72, .val (.int .i64) .n t72_19), (73, .val (.int .i64) .n t73_20)]) rfl ?_
              refine tr_skip ?_
              refine tr_rg hP tabOk hsp fun A hA M hM => ?_
              cbv
              refine hM _ ?_
              exact Exists.intro _ (And.intro (Option.some.inj H).symm (by subst hA; rfl))
          · replace H := if_f H hc
            refine tr_keep [0, 7, 8, 11, 13, 14, 71, 72, 73] (σ' := mkSl 103 0 [(0, .val (.list (.st [.int .i64, .int .i64, .int .i64])) .n t0_1), (7, .val (.list (.int .i64)) (.l .n) r_5.1), (8, .val (.int .i64) .n r_5.2), (11, .val (.list (.st [.int .i64, .int .i64, .int .i64])) (.l .n) q_16), (13, .val (.list (.int .i64)) (.l .n) r_18.1), (14, .val (.int .i64) .n r_18.2), (71, .bor 13 []), (72, .val (.int .i64) .n t72_19), (73, .val (.int .i64) .n t73_20)]) rfl ?_
            refine tr_exit ?_
            exact And.intro rfl (Exists.intro _ (And.intro (Option.some.inj H).symm (by rfl)))
      · obtain ⟨t11_13, t58_14⟩ := x
        replace H : StampBound_L2 t57_12 t11_13 t58_14 = some r2 := H
        unfold StampBound_L2 at H
        refine tr_seq ?_
        refine tr_rg hP tabOk hsp fun A hA M hM => ?_
        cbv
        refine hM _ ?_
        refine tr_seq ?_
        refine tr_keep [0, 7, 8, 11, 57, 58, 59] (σ' := mkSl 103 0 [(0, .val (.list (.st [.int .i64, .int .i64, .int .i64])) .n t0_1), (7, .val (.list (.int .i64)) (.l .n) r_5.1), (8, .val (.int .i64) .n r_5.2), (11, .val (.list (.st [.int .i64, .int .i64, .int .i64])) (.l .n) t11_13), (57, .val (.int .i64) .n t57_12), (58, .val (.int .i64) .n t58_14), (59, .val (.bool) .n (decide (t58_14 < t57_12)))]) (by subst hA; rfl) ?_
        clear hM hA M A
        refine tr_cond rfl (fun hc => ?_) (fun hc => ?_)
        · replace H := if_t H hc
          refine tr_keep [0, 7, 8, 11, 57, 58] (σ' := mkSl 103 0 [(0, .val (.list (.st [.int .i64, .int .i64, .int .i64])) .n t0_1), (7, .val (.list (.int .i64)) (.l .n) r_5.1), (8, .val (.int .i64) .n r_5.2), (11, .val (.list (.st [.int .i64, .int .i64, .int .i64])) (.l .n) t11_13), (57, .val (.int .i64) .n t57_12), (58, .val (.int .i64) .n t58_14)]) rfl ?_
          refine tr_skip ?_
          refine tr_seq ?_
          refine tr_block ?_
          refine tr_seq ?_
          refine tr_rg hP tabOk hsp fun A hA M hM => ?_
          cbv
          refine hM _ ?_
          refine tr_keep [0, 7, 8, 11, 12, 57, 58] (σ' := mkSl 103 0 [(0, .val (.list (.st [.int .i64, .int .i64, .int .i64])) .n t0_1), (7, .val (.list (.int .i64)) (.l .n) r_5.1), (8, .val (.int .i64) .n r_5.2), (11, .val (.list (.st [.int .i64, .int .i64, .int .i64])) (.l .n) t11_13), (12, .val (.int .i64) .n t58_14), (57, .val (.int .i64) .n t57_12), (58, .val (.int .i64) .n t58_14)]) (by subst hA; rfl) ?_
          clear hM hA M A
          refine tr_rg hP tabOk hsp fun A hA M hM => ?_
          cbv
          obtain ⟨ob1, H⟩ := ck_out H
          refine ⟨by subst hA; exact ob1, hM _ ?_⟩
          refine tr_keepL [0, 7, 8, 11, 57, 58] (fun t11_17 : List ((Int × Int × Int × Unit)) => mkSl 103 0 [(0, .val (.list (.st [.int .i64, .int .i64, .int .i64])) .n t0_1), (7, .val (.list (.int .i64)) (.l .n) r_5.1), (8, .val (.int .i64) .n r_5.2), (11, .val (.list (.st [.int .i64, .int .i64, .int .i64])) (.l .n) t11_17), (57, .val (.int .i64) .n t57_12), (58, .val (.int .i64) .n t58_14)]) H (by subst hA; rfl) (fun t11_17 H => ?_)
          clear ob1 hM hA M A
          refine tr_rg hP tabOk hsp fun A hA M hM => ?_
          cbv
          refine hM _ ?_
          exact Exists.intro _ (And.intro (Option.some.inj H).symm (by subst hA; rfl))
        · replace H := if_f H hc
          refine tr_keep [0, 7, 8, 11, 57, 58] (σ' := mkSl 103 0 [(0, .val (.list (.st [.int .i64, .int .i64, .int .i64])) .n t0_1), (7, .val (.list (.int .i64)) (.l .n) r_5.1), (8, .val (.int .i64) .n r_5.2), (11, .val (.list (.st [.int .i64, .int .i64, .int .i64])) (.l .n) t11_13), (57, .val (.int .i64) .n t57_12), (58, .val (.int .i64) .n t58_14)]) rfl ?_
          refine tr_exit ?_
          exact And.intro rfl (Exists.intro _ (And.intro (Option.some.inj H).symm (by rfl)))
    · obtain ⟨t39_7, rfl⟩ : ∃ v, v = x := ⟨x, rfl⟩
      replace H : StampBound_L1 r_5 t38_6 t39_7 = some r1 := H
      unfold StampBound_L1 at H
      refine tr_seq ?_
      refine tr_rg hP tabOk hsp fun A hA M hM => ?_
      cbv
      refine hM _ ?_
      refine tr_seq ?_
      refine tr_keep [0, 1, 7, 8, 37, 38, 39, 40] (σ' := mkSl 103 0 [(0, .val (.list (.st [.int .i64, .int .i64, .int .i64])) .n t0_1), (1, .val (.int .i64) .n t1_2), (7, .val (.list (.int .i64)) (.l .n) r_5.1), (8, .val (.int .i64) .n r_5.2), (37, .bor 7 []), (38, .val (.int .i64) .n t38_6), (39, .val (.int .i64) .n t39_7), (40, .val (.bool) .n (decide (t39_7 < t38_6)))]) (by subst hA; rfl) ?_
      clear hM hA M A
      refine tr_cond rfl (fun hc => ?_) (fun hc => ?_)
      · replace H := if_t H hc
        refine tr_keep [0, 1, 7, 8, 37, 38, 39] (σ' := mkSl 103 0 [(0, .val (.list (.st [.int .i64, .int .i64, .int .i64])) .n t0_1), (1, .val (.int .i64) .n t1_2), (7, .val (.list (.int .i64)) (.l .n) r_5.1), (8, .val (.int .i64) .n r_5.2), (37, .bor 7 []), (38, .val (.int .i64) .n t38_6), (39, .val (.int .i64) .n t39_7)]) rfl ?_
        refine tr_skip ?_
        refine tr_seq ?_
        refine tr_block ?_
        refine tr_seq ?_
        refine tr_rg hP tabOk hsp fun A hA M hM => ?_
        cbv
        obtain ⟨ob1, H⟩ := ck_out H
        refine ⟨by subst hA; exact ob1, hM _ ?_⟩
        refine tr_seq ?_
        refine tr_keepL [0, 1, 7, 8, 9, 10, 37, 38, 39] (fun t10_9 : Int => mkSl 103 0 [(0, .val (.list (.st [.int .i64, .int .i64, .int .i64])) .n t0_1), (1, .val (.int .i64) .n t1_2), (7, .val (.list (.int .i64)) (.l .n) r_5.1), (8, .val (.int .i64) .n r_5.2), (9, .val (.int .i64) .n t39_7), (10, .val (.int .i64) .n t10_9), (37, .bor 7 []), (38, .val (.int .i64) .n t38_6), (39, .val (.int .i64) .n t39_7)]) H (by subst hA; rfl) (fun t10_9 H => ?_)
        clear ob1 hM hA M A
        refine tr_rg hP tabOk hsp fun A hA M hM => ?_
        cbv
        refine hM _ ?_
        refine tr_keep [0, 1, 7, 8, 37, 38, 39, 51] (σ' := mkSl 103 0 [(0, .val (.list (.st [.int .i64, .int .i64, .int .i64])) .n t0_1), (1, .val (.int .i64) .n t1_2), (7, .val (.list (.int .i64)) (.l .n) r_5.1), (8, .val (.int .i64) .n r_5.2), (37, .bor 7 []), (38, .val (.int .i64) .n t38_6), (39, .val (.int .i64) .n t39_7), (51, .val (.bool) .n ((decide (t10_9 < (1 : Int))) || (decide (t10_9 > (arR .add .i64 t39_7 (1 : Int))))))]) (by subst hA; rfl) ?_
        clear hM hA M A
        refine tr_cond rfl (fun hc => ?_) (fun hc => ?_)
        · replace H := if_t H hc
          refine tr_keep [0, 1, 7, 8, 37, 38, 39] (σ' := mkSl 103 0 [(0, .val (.list (.st [.int .i64, .int .i64, .int .i64])) .n t0_1), (1, .val (.int .i64) .n t1_2), (7, .val (.list (.int .i64)) (.l .n) r_5.1), (8, .val (.int .i64) .n r_5.2), (37, .bor 7 []), (38, .val (.int .i64) .n t38_6), (39, .val (.int .i64) .n t39_7)]) rfl ?_
          refine tr_seq ?_
          refine tr_rg hP tabOk hsp fun A hA M hM => ?_
          cbv
          refine hM _ ?_
          refine tr_ret ?_
          have hr := Option.some.inj H
          refine Exists.intro _ (And.intro hr.symm (fun hr => ?_))
          subst hr
          subst hA
          exact rfl
        · replace H := if_f H hc
          refine tr_keep [0, 1, 7, 8, 37, 38, 39] (σ' := mkSl 103 0 [(0, .val (.list (.st [.int .i64, .int .i64, .int .i64])) .n t0_1), (1, .val (.int .i64) .n t1_2), (7, .val (.list (.int .i64)) (.l .n) r_5.1), (8, .val (.int .i64) .n r_5.2), (37, .bor 7 []), (38, .val (.int .i64) .n t38_6), (39, .val (.int .i64) .n t39_7)]) rfl ?_
          refine tr_skip ?_
          refine tr_rg hP tabOk hsp fun A hA M hM => ?_
          cbv
          refine hM _ ?_
          exact Exists.intro _ (And.intro (Option.some.inj H).symm (by subst hA; rfl))
      · replace H := if_f H hc
        refine tr_keep [0, 1, 7, 8, 37, 38, 39] (σ' := mkSl 103 0 [(0, .val (.list (.st [.int .i64, .int .i64, .int .i64])) .n t0_1), (1, .val (.int .i64) .n t1_2), (7, .val (.list (.int .i64)) (.l .n) r_5.1), (8, .val (.int .i64) .n r_5.2), (37, .bor 7 []), (38, .val (.int .i64) .n t38_6), (39, .val (.int .i64) .n t39_7)]) rfl ?_
        refine tr_exit ?_
        exact And.intro rfl (Exists.intro _ (And.intro (Option.some.inj H).symm (by rfl)))
theorem StampBound_sp : ∃ (pg : PT.denL [.list (.st [.int .i64, .int .i64, .int .i64]), .int .i64] → Prop) (fg : PT.denL [.list (.st [.int .i64, .int .i64, .int .i64]), .int .i64] → PT.denL [.bool]), SpecRuns Try.prog 7 ⟨[.list (.st [.int .i64, .int .i64, .int .i64]), .int .i64], [.v, .v], [.bool], [.n], pg, fg⟩ ∧ (∀ {a1 : List ((Int × Int × Int × Unit))} {a2 : Int} {y : Bool}, StampBound a1 a2 = some y → pg (a1, a2, ()) ∧ y = (fg (a1, a2, ())).1) ∧ (∀ {a1 : List ((Int × Int × Int × Unit))} {a2 : Int}, (StampBound a1 a2).isSome = true → pg (a1, a2, ())) ∧ ∀ {a1 : List ((Int × Int × Int × Unit))} {a2 : Int}, (StampBound a1 a2).getD false = (fg (a1, a2, ())).1 := by
  obtain ⟨pg, fg, h, hc, hi, hd⟩ := spec_hide StampBound_runs
  refine ⟨pg, fg, h, ?_, ?_, ?_⟩
  · intro a1 a2 y e
    obtain ⟨h1, h2⟩ := hc (a1, a2, ()) (y, ()) (congrArg (Option.map fun r => (r, ())) e)
    exact ⟨h1, by first | (rw [h2]; done) | (rw [h2]; rfl)⟩
  · intro a1 a2
    intro e
    exact hi (a1, a2, ()) (map_isSome e)
  · intro a1 a2
    rw [hd (a1, a2, ())]
    cases StampBound a1 a2 <;> rfl
end Go.Proofs.Ytcghecmefpldmaa.Vc
