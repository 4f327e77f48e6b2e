/- Functions of the program as functions that may fail, and that the code computes them (printed). Each theorem bears its conditions itself. -/
import Derived.Test.YtcghecmefpldmaaVcDefs
import Derived.Test.YtcghecmefpldmaaVcTab
import Derived.Test.YtcghecmefpldmaaVcQstampQStamps
import Derived.Test.YtcghecmefpldmaaVcQslicesQEqualQLintQint
import Derived.Test.YtcghecmefpldmaaVcQstampQAhead
open Go Go.Proofs.Ytcghecmefpldmaa.Sy Go.Proofs
set_option maxHeartbeats 4000000
set_option maxRecDepth 100000
set_option linter.unusedVariables false
set_option linter.unusedSimpArgs false
namespace Go.Proofs.Ytcghecmefpldmaa.Vc
theorem StampAhead_runs : SpecRuns Try.prog 8 (oSpec [.list (.st [.int .i64, .int .i64, .int .i64])] [.v] [.bool] [.n] fun x => (StampAhead x.1).map fun r => (r, ())) := by
  obtain ⟨pg17, fg17, hs17, hc17, hi17, hd17⟩ := stamp_Stamps_sp
  obtain ⟨pg20, fg20, hs20, hc20, hi20, hd20⟩ := slices_Equal_Lint_int_sp
  obtain ⟨pg18, fg18, hs18, hc18, hi18, hd18⟩ := stamp_Ahead_sp
  have hsp : SpecsOk Try.prog [(17, ⟨[.list (.st [.int .i64, .int .i64, .int .i64])], [.v], [.list (.int .i64), .int .i64], [.l .n, .n], pg17, fg17⟩), (20, ⟨[.list (.int .i64), .list (.int .i64)], [.v, .v], [.bool], [.n], pg20, fg20⟩), (18, ⟨[.list (.st [.int .i64, .int .i64, .int .i64])], [.v], [.list (.st [.int .i64, .int .i64]), .int .i64], [.l .n, .n], pg18, fg18⟩)] := (specsOk_cons Try.func17 (by kernel_rfl) (by kernel_rfl) hs17 (specsOk_cons Try.func20 (by kernel_rfl) (by kernel_rfl) hs20 (specsOk_cons Try.func18 (by kernel_rfl) (by kernel_rfl) hs18 specsOk_nil)))
  refine runs_of_o tabOk Try.func8 rfl (Nat.le_of_ble_eq_true rfl) rfl ?_
  rintro E ⟨(t0_1 : List ((Int × Int × Int × Unit))), ⟨⟩⟩ y hP H hw
  obtain ⟨z, H1, rfl⟩ := map_out H
  replace H : StampAhead t0_1 = some z := H1
  clear hw H1
  unfold StampAhead at H
  refine tr_keep [0] (σ' := mkSl 115 0 [(0, .val (.list (.st [.int .i64, .int .i64, .int .i64])) .n t0_1)]) rfl ?_
  refine tr_seq ?_
  refine tr_rg hP tabOk hsp fun A hA M hM => ?_
  cbv
  refine hM _ ?_
  refine tr_seq ?_
  refine tr_seq ?_
  refine tr_keep [0] (σ' := mkSl 115 0 [(0, .val (.list (.st [.int .i64, .int .i64, .int .i64])) .n t0_1)]) (by subst hA; rfl) ?_
  clear hM hA M A
  refine tr_rg hP tabOk hsp fun A hA M hM => ?_
  cbv
  obtain ⟨r_2, hr1, H⟩ := bind_out H
  obtain ⟨pq1, eq1⟩ := hc17 hr1
  refine ⟨by subst hA; subst eq1; exact pq1, hM _ ?_⟩
  refine tr_seq ?_
  refine tr_keep [0, 3, 4] (σ' := mkSl 115 0 [(0, .val (.list (.st [.int .i64, .int .i64, .int .i64])) .n t0_1), (3, .val (.list (.int .i64)) (.l .n) r_2.1), (4, .val (.int .i64) .n r_2.2)]) (by subst hA; subst eq1; rfl) ?_
  clear pq1 eq1 hr1 hM hA M A
  refine tr_rg hP tabOk hsp fun A hA M hM => ?_
  cbv
  obtain ⟨r_3, er1, H⟩ := letO_out H
  obtain ⟨ob1, H⟩ := ck_out H
  have eq1 := er1.trans hd20
  refine ⟨by subst hA; subst eq1; exact fun h0 => hi20 (ob1 h0), hM _ ?_⟩
  refine tr_keep [0, 30] (σ' := mkSl 115 0 [(0, .val (.list (.st [.int .i64, .int .i64, .int .i64])) .n t0_1), (30, .val (.bool) .n ((r_2.2 != (0 : Int)) || (!r_3)))]) (by subst hA; subst eq1; rfl) ?_
  clear ob1 eq1 er1 hM hA M A
  refine tr_cond rfl (fun hc => ?_) (fun hc => ?_)
  · replace H := if_t H hc
    refine tr_keep [0] (σ' := mkSl 115 0 [(0, .val (.list (.st [.int .i64, .int .i64, .int .i64])) .n t0_1)]) rfl ?_
    refine tr_seq ?_
    refine tr_rg hP tabOk hsp fun A hA M hM => ?_
    cbv
    refine hM _ ?_
    refine tr_ret ?_
    have hr := Option.some.inj H
    subst hr
    subst hA
    exact rfl
  · replace H := if_f H hc
    refine tr_keep [0] (σ' := mkSl 115 0 [(0, .val (.list (.st [.int .i64, .int .i64, .int .i64])) .n t0_1)]) rfl ?_
    refine tr_skip ?_
    refine tr_seq ?_
    refine tr_rg hP tabOk hsp fun A hA M hM => ?_
    cbv
    obtain ⟨r_4, hr1, H⟩ := bind_out H
    obtain ⟨pq1, eq1⟩ := hc17 hr1
    refine ⟨by subst hA; subst eq1; exact pq1, hM _ ?_⟩
    refine tr_seq ?_
    refine tr_keep [0, 5, 6] (σ' := mkSl 115 0 [(0, .val (.list (.st [.int .i64, .int .i64, .int .i64])) .n t0_1), (5, .val (.list (.int .i64)) (.l .n) r_4.1), (6, .val (.int .i64) .n r_4.2)]) (by subst hA; subst eq1; rfl) ?_
    clear pq1 eq1 hr1 hM hA M A
    refine tr_rg hP tabOk hsp fun A hA M hM => ?_
    cbv
    obtain ⟨r_5, hr1, H⟩ := bind_out H
    obtain ⟨pq1, eq1⟩ := hc18 hr1
    refine ⟨by subst hA; subst eq1; exact pq1, hM _ ?_⟩
    refine tr_seq ?_
    refine tr_seq ?_
    refine tr_keep [0, 5, 6, 7, 8] (σ' := mkSl 115 0 [(0, .val (.list (.st [.int .i64, .int .i64, .int .i64])) .n t0_1), (5, .val (.list (.int .i64)) (.l .n) r_4.1), (6, .val (.int .i64) .n r_4.2), (7, .val (.list (.st [.int .i64, .int .i64])) (.l .n) r_5.1), (8, .val (.int .i64) .n r_5.2)]) (by subst hA; subst eq1; rfl) ?_
    clear pq1 eq1 hr1 hM hA M A
    refine tr_rg hP tabOk hsp fun A hA M hM => ?_
    cbv
    refine hM _ ?_
    refine tr_keep [0, 5, 6, 7, 8, 46] (σ' := mkSl 115 0 [(0, .val (.list (.st [.int .i64, .int .i64, .int .i64])) .n t0_1), (5, .val (.list (.int .i64)) (.l .n) r_4.1), (6, .val (.int .i64) .n r_4.2), (7, .val (.list (.st [.int .i64, .int .i64])) (.l .n) r_5.1), (8, .val (.int .i64) .n r_5.2), (46, .val (.bool) .n ((r_4.2 != (0 : Int)) || (r_5.2 != (0 : Int))))]) (by subst hA; rfl) ?_
    clear hM hA M A
    refine tr_cond rfl (fun hc => ?_) (fun hc => ?_)
    · replace H := if_t H hc
      refine tr_keep [0, 5, 6, 7, 8] (σ' := mkSl 115 0 [(0, .val (.list (.st [.int .i64, .int .i64, .int .i64])) .n t0_1), (5, .val (.list (.int .i64)) (.l .n) r_4.1), (6, .val (.int .i64) .n r_4.2), (7, .val (.list (.st [.int .i64, .int .i64])) (.l .n) r_5.1), (8, .val (.int .i64) .n r_5.2)]) rfl ?_
      refine tr_seq ?_
      refine tr_rg hP tabOk hsp fun A hA M hM => ?_
      cbv
      refine hM _ ?_
      refine tr_ret ?_
      have hr := Option.some.inj H
      subst hr
      subst hA
      exact rfl
    · replace H := if_f H hc
      refine tr_keep [0, 5, 6, 7, 8] (σ' := mkSl 115 0 [(0, .val (.list (.st [.int .i64, .int .i64, .int .i64])) .n t0_1), (5, .val (.list (.int .i64)) (.l .n) r_4.1), (6, .val (.int .i64) .n r_4.2), (7, .val (.list (.st [.int .i64, .int .i64])) (.l .n) r_5.1), (8, .val (.int .i64) .n r_5.2)]) rfl ?_
      refine tr_skip ?_
      refine tr_seq ?_
      refine tr_seq ?_
      refine tr_rg hP tabOk hsp fun A hA M hM => ?_
      cbv
      refine hM _ ?_
      refine tr_block ?_
      refine tr_keepL [0, 5, 7, 58, 59, 60] (fun t59_6 : Int => mkSl 115 0 [(0, .val (.list (.st [.int .i64, .int .i64, .int .i64])) .n t0_1), (5, .val (.list (.int .i64)) (.l .n) r_4.1), (7, .val (.list (.st [.int .i64, .int .i64])) (.l .n) r_5.1), (58, .bor 7 []), (59, .val (.int .i64) .n t59_6), (60, .val (.int .i64) .n (0 : Int))]) H (by subst hA; rfl) (fun t59_6 H => ?_)
      clear hM hA M A
      obtain ⟨q, hq, Hl, Hr⟩ := bindE_out H
      refine tr_loopE 0 (fun x : Int => StampAhead_L1 r_4 r_5 t59_6 x) (fun x : Int => mkSl 115 0 [(0, .val (.list (.st [.int .i64, .int .i64, .int .i64])) .n t0_1), (5, .val (.list (.int .i64)) (.l .n) r_4.1), (7, .val (.list (.st [.int .i64, .int .i64])) (.l .n) r_5.1), (58, .bor 7 []), (59, .val (.int .i64) .n t59_6), (60, .val (.int .i64) .n x)]) [0, 5, 7, 58, 59, 60] (fun q_8 : Unit => mkSl 115 0 [(0, .val (.list (.st [.int .i64, .int .i64, .int .i64])) .n t0_1), (5, .val (.list (.int .i64)) (.l .n) r_4.1)]) [0, 5] hq rfl Hr (fun q_8 hl σ' h => ?_) (fun x r1 H => ?_)
      · replace H := Hl q_8 hl
        refine tr_keep [0, 5] h ?_
        refine tr_seq ?_
        refine tr_seq ?_
        refine tr_rg hP tabOk hsp fun A hA M hM => ?_
        cbv
        refine hM _ ?_
        refine tr_block ?_
        refine tr_keepL [0, 5, 76, 77, 78] (fun t77_10 : Int => mkSl 115 0 [(0, .val (.list (.st [.int .i64, .int .i64, .int .i64])) .n t0_1), (5, .val (.list (.int .i64)) (.l .n) r_4.1), (76, .val (.list (.st [.int .i64, .int .i64, .int .i64])) .n t0_1), (77, .val (.int .i64) .n t77_10), (78, .val (.int .i64) .n (0 : Int))]) H (by subst hA; rfl) (fun t77_10 H => ?_)
        clear hM hA M A
        obtain ⟨q, hq, Hl, Hr⟩ := bindE_out H
        refine tr_loopE 2 (fun x : Int => StampAhead_L2 t0_1 r_4 t77_10 x) (fun x : Int => mkSl 115 0 [(0, .val (.list (.st [.int .i64, .int .i64, .int .i64])) .n t0_1), (5, .val (.list (.int .i64)) (.l .n) r_4.1), (76, .val (.list (.st [.int .i64, .int .i64, .int .i64])) .n t0_1), (77, .val (.int .i64) .n t77_10), (78, .val (.int .i64) .n x)]) [0, 5, 76, 77, 78] (fun q_12 : Unit => mkSl 115 0 [(0, .val (.list (.st [.int .i64, .int .i64, .int .i64])) .n t0_1), (5, .val (.list (.int .i64)) (.l .n) r_4.1)]) [0, 5] hq rfl Hr (fun q_12 hl σ' h => ?_) (fun x r2 H => ?_)
        · replace H := Hl q_12 hl
          refine tr_keep [0, 5] h ?_
          refine tr_seq ?_
          refine tr_rg hP tabOk hsp fun A hA M hM => ?_
          cbv
          refine hM _ ?_
          refine tr_ret ?_
          have hr := Option.some.inj H
          subst hr
          subst hA
          exact rfl
        · obtain ⟨t78_11, rfl⟩ : ∃ v, v = x := ⟨x, rfl⟩
          replace H : StampAhead_L2 t0_1 r_4 t77_10 t78_11 = some r2 := H
          unfold StampAhead_L2 at H
          refine tr_seq ?_
          refine tr_rg hP tabOk hsp fun A hA M hM => ?_
          cbv
          refine hM _ ?_
          refine tr_seq ?_
          refine tr_keep [0, 5, 76, 77, 78, 79] (σ' := mkSl 115 0 [(0, .val (.list (.st [.int .i64, .int .i64, .int .i64])) .n t0_1), (5, .val (.list (.int .i64)) (.l .n) r_4.1), (76, .val (.list (.st [.int .i64, .int .i64, .int .i64])) .n t0_1), (77, .val (.int .i64) .n t77_10), (78, .val (.int .i64) .n t78_11), (79, .val (.bool) .n (decide (t78_11 < t77_10)))]) (by subst hA; rfl) ?_
          clear hM hA M A
          refine tr_cond rfl (fun hc => ?_) (fun hc => ?_)
          · replace H := if_t H hc
            refine tr_keep [0, 5, 76, 77, 78] (σ' := mkSl 115 0 [(0, .val (.list (.st [.int .i64, .int .i64, .int .i64])) .n t0_1), (5, .val (.list (.int .i64)) (.l .n) r_4.1), (76, .val (.list (.st [.int .i64, .int .i64, .int .i64])) .n t0_1), (77, .val (.int .i64) .n t77_10), (78, .val (.int .i64) .n t78_11)]) rfl ?_
            refine tr_skip ?_
            refine tr_seq ?_
            refine tr_block ?_
            refine tr_seq ?_
            refine tr_rg hP tabOk hsp fun A hA M hM => ?_
            cbv
            obtain ⟨ob1, H⟩ := ck_out H
            refine ⟨by subst hA; exact ob1, hM _ ?_⟩
            refine tr_seq ?_
            refine tr_keepL [0, 5, 11, 12, 76, 77, 78] (fun t12_13 : (Int × Int × Int × Unit) => mkSl 115 0 [(0, .val (.list (.st [.int .i64, .int .i64, .int .i64])) .n t0_1), (5, .val (.list (.int .i64)) (.l .n) r_4.1), (11, .val (.int .i64) .n t78_11), (12, .val (.box (.st [.int .i64, .int .i64, .int .i64])) (.b .n) t12_13), (76, .val (.list (.st [.int .i64, .int .i64, .int .i64])) .n t0_1), (77, .val (.int .i64) .n t77_10), (78, .val (.int .i64) .n t78_11)]) H (by subst hA; rfl) (fun t12_13 H => ?_)
            clear ob1 hM hA M A
            refine tr_rg hP tabOk hsp fun A hA M hM => ?_
            cbv
            obtain ⟨ob1, H⟩ := ck_out H
            refine ⟨by subst hA; exact ob1, hM _ ?_⟩
            refine tr_block ?_
            refine tr_keepL [0, 5, 11, 12, 76, 77, 78, 85, 86, 87] (fun t85_14 : List ((Int × Int × Int × Unit)) => mkSl 115 0 [(0, .val (.list (.st [.int .i64, .int .i64, .int .i64])) .n t0_1), (5, .val (.list (.int .i64)) (.l .n) r_4.1), (11, .val (.int .i64) .n t78_11), (12, .val (.box (.st [.int .i64, .int .i64, .int .i64])) (.b .n) t12_13), (76, .val (.list (.st [.int .i64, .int .i64, .int .i64])) .n t0_1), (77, .val (.int .i64) .n t77_10), (78, .val (.int .i64) .n t78_11), (85, .val (.list (.st [.int .i64, .int .i64, .int .i64])) .n t85_14), (86, .val (.int .i64) .n ((t85_14.length : Int))), (87, .val (.int .i64) .n (0 : Int))]) H (by subst hA; rfl) (fun t85_14 H => ?_)
            refine tr_keepL [0, 5, 11, 12, 76, 77, 78, 85, 86, 87] (fun t86_15 : Int => mkSl 115 0 [(0, .val (.list (.st [.int .i64, .int .i64, .int .i64])) .n t0_1), (5, .val (.list (.int .i64)) (.l .n) r_4.1), (11, .val (.int .i64) .n t78_11), (12, .val (.box (.st [.int .i64, .int .i64, .int .i64])) (.b .n) t12_13), (76, .val (.list (.st [.int .i64, .int .i64, .int .i64])) .n t0_1), (77, .val (.int .i64) .n t77_10), (78, .val (.int .i64) .n t78_11), (85, .val (.list (.st [.int .i64, .int .i64, .int .i64])) .n t85_14), (86, .val (.int .i64) .n t86_15), (87, .val (.int .i64) .n (0 : Int))]) H (by rfl) (fun t86_15 H => ?_)
            clear ob1 hM hA M A
            obtain ⟨q, hq, Hl, Hr⟩ := bindE_out H
            refine tr_loopE 4 (fun x : Int => StampAhead_L3 r_4 t78_11 t12_13 t85_14 t86_15 x) (fun x : Int => mkSl 115 0 [(0, .val (.list (.st [.int .i64, .int .i64, .int .i64])) .n t0_1), (5, .val (.list (.int .i64)) (.l .n) r_4.1), (11, .val (.int .i64) .n t78_11), (12, .val (.box (.st [.int .i64, .int .i64, .int .i64])) (.b .n) t12_13), (76, .val (.list (.st [.int .i64, .int .i64, .int .i64])) .n t0_1), (77, .val (.int .i64) .n t77_10), (78, .val (.int .i64) .n t78_11), (85, .val (.list (.st [.int .i64, .int .i64, .int .i64])) .n t85_14), (86, .val (.int .i64) .n t86_15), (87, .val (.int .i64) .n x)]) [0, 5, 11, 12, 76, 77, 78, 85, 86, 87] (fun q_17 : Unit => mkSl 115 0 [(0, .val (.list (.st [.int .i64, .int .i64, .int .i64])) .n t0_1), (5, .val (.list (.int .i64)) (.l .n) r_4.1), (76, .val (.list (.st [.int .i64, .int .i64, .int .i64])) .n t0_1), (77, .val (.int .i64) .n t77_10), (78, .val (.int .i64) .n t78_11)]) [0, 5, 76, 77, 78] hq rfl Hr (fun q_17 hl σ' h => ?_) (fun x r3 H => ?_)
            · replace H := Hl q_17 hl
              refine tr_keep [0, 5, 76, 77, 78] h ?_
              refine tr_rg hP tabOk hsp fun A hA M hM => ?_
              cbv
              refine hM _ ?_
              exact Exists.intro _ (And.intro (Option.some.inj H).symm (by subst hA; rfl))
            · obtain ⟨t87_16, rfl⟩ : ∃ v, v = x := ⟨x, rfl⟩
              replace H : StampAhead_L3 r_4 t78_11 t12_13 t85_14 t86_15 t87_16 = some r3 := H
              unfold StampAhead_L3 at H
              refine tr_seq ?_
              refine tr_rg hP tabOk hsp fun A hA M hM => ?_
              cbv
              refine hM _ ?_
              refine tr_seq ?_
              refine tr_keep [0, 5, 11, 12, 76, 77, 78, 85, 86, 87, 88] (σ' := mkSl 115 0 [(0, .val (.list (.st [.int .i64, .int .i64, .int .i64])) .n t0_1), (5, .val (.list (.int .i64)) (.l .n) r_4.1), (11, .val (.int .i64) .n t78_11), (12, .val (.box (.st [.int .i64, .int .i64, .int .i64])) (.b .n) t12_13), (76, .val (.list (.st [.int .i64, .int .i64, .int .i64])) .n t0_1), (77, .val (.int .i64) .n t77_10), (78, .val (.int .i64) .n t78_11), (85, .val (.list (.st [.int .i64, .int .i64, .int .i64])) .n t85_14), (86, .val (.int .i64) .n t86_15), (87, .val (.int .i64) .n t87_16), (88, .val (.bool) .n (decide (t87_16 < t86_15)))]) (by subst hA; rfl) ?_
              clear hM hA M A
              refine tr_cond rfl (fun hc => ?_) (fun hc => ?_)
              · replace H := if_t H hc
                refine tr_keep [0, 5, 11, 12, 76, 77, 78, 85, 86, 87] (σ' := mkSl 115 0 [(0, .val (.list (.st [.int .i64, .int .i64, .int .i64])) .n t0_1), (5, .val (.list (.int .i64)) (.l .n) r_4.1), (11, .val (.int .i64) .n t78_11), (12, .val (.box (.st [.int .i64, .int .i64, .int .i64])) (.b .n) t12_13), (76, .val (.list (.st [.int .i64, .int .i64, .int .i64])) .n t0_1), (77, .val (.int .i64) .n t77_10), (78, .val (.int .i64) .n t78_11), (85, .val (.list (.st [.int .i64, .int .i64, .int .i64])) .n t85_14), (86, .val (.int .i64) .n t86_15), (87, .val (.int .i64) .n t87_16)]) rfl ?_
                refine tr_skip ?_
                refine tr_seq ?_
                refine tr_block ?_
                refine tr_seq ?_
                refine tr_rg hP tabOk hsp fun A hA M hM => ?_
                cbv
                obtain ⟨ob1, H⟩ := ck_out H
                refine ⟨by subst hA; exact ob1, hM _ ?_⟩
                refine tr_seq ?_
                refine tr_keepL [0, 5, 11, 12, 13, 14, 76, 77, 78, 85, 86, 87] (fun t14_18 : (Int × Int × Int × Unit) => mkSl 115 0 [(0, .val (.list (.st [.int .i64, .int .i64, .int .i64])) .n t0_1), (5, .val (.list (.int .i64)) (.l .n) r_4.1), (11, .val (.int .i64) .n t78_11), (12, .val (.box (.st [.int .i64, .int .i64, .int .i64])) (.b .n) t12_13), (13, .val (.int .i64) .n t87_16), (14, .val (.box (.st [.int .i64, .int .i64, .int .i64])) (.b .n) t14_18), (76, .val (.list (.st [.int .i64, .int .i64, .int .i64])) .n t0_1), (77, .val (.int .i64) .n t77_10), (78, .val (.int .i64) .n t78_11), (85, .val (.list (.st [.int .i64, .int .i64, .int .i64])) .n t85_14), (86, .val (.int .i64) .n t86_15), (87, .val (.int .i64) .n t87_16)]) H (by subst hA; rfl) (fun t14_18 H => ?_)
                clear ob1 hM hA M A
                refine tr_rg hP tabOk hsp fun A hA M hM => ?_
                cbv
                obtain ⟨ob1, H⟩ := ck_out H
                obtain ⟨ob2, H⟩ := ck_out H
                refine ⟨by subst hA; exact ob1, by subst hA; exact ob2, hM _ ?_⟩
                refine tr_keep [0, 5, 11, 12, 76, 77, 78, 85, 86, 87, 107] (σ' := mkSl 115 0 [(0, .val (.list (.st [.int .i64, .int .i64, .int .i64])) .n t0_1), (5, .val (.list (.int .i64)) (.l .n) r_4.1), (11, .val (.int .i64) .n t78_11), (12, .val (.box (.st [.int .i64, .int .i64, .int .i64])) (.b .n) t12_13), (76, .val (.list (.st [.int .i64, .int .i64, .int .i64])) .n t0_1), (77, .val (.int .i64) .n t77_10), (78, .val (.int .i64) .n t78_11), (85, .val (.list (.st [.int .i64, .int .i64, .int .i64])) .n t85_14), (86, .val (.int .i64) .n t86_15), (87, .val (.int .i64) .n t87_16), (107, .val (.bool) .n ((t12_13.1 == t14_18.1) && ((r_4.1.getD t78_11.toNat (0 : Int)) == (r_4.1.getD t87_16.toNat (0 : Int)))))]) (by subst hA; rfl) ?_
                clear ob2 ob1 hM hA M A
                refine tr_cond rfl (fun hc => ?_) (fun hc => ?_)
                · replace H := if_t H hc
                  refine tr_keep [0, 5, 11, 12, 76, 77, 78, 85, 86, 87] (σ' := mkSl 115 0 [(0, .val (.list (.st [.int .i64, .int .i64, .int .i64])) .n t0_1), (5, .val (.list (.int .i64)) (.l .n) r_4.1), (11, .val (.int .i64) .n t78_11), (12, .val (.box (.st [.int .i64, .int .i64, .int .i64])) (.b .n) t12_13), (76, .val (.list (.st [.int .i64, .int .i64, .int .i64])) .n t0_1), (77, .val (.int .i64) .n t77_10), (78, .val (.int .i64) .n t78_11), (85, .val (.list (.st [.int .i64, .int .i64, .int .i64])) .n t85_14), (86, .val (.int .i64) .n t86_15), (87, .val (.int .i64) .n t87_16)]) rfl ?_
                  refine tr_seq ?_
                  refine tr_rg hP tabOk hsp fun A hA M hM => ?_
                  cbv
                  refine hM _ ?_
                  refine tr_ret ?_
                  have hr := Option.some.inj H
                  refine Exists.intro _ (And.intro hr.symm (fun hr => ?_))
                  refine Exists.intro _ (And.intro hr.symm (fun hr => ?_))
                  subst hr
                  subst hA
                  exact rfl
                · replace H := if_f H hc
                  refine tr_keep [0, 5, 11, 12, 76, 77, 78, 85, 86, 87] (σ' := mkSl 115 0 [(0, .val (.list (.st [.int .i64, .int .i64, .int .i64])) .n t0_1), (5, .val (.list (.int .i64)) (.l .n) r_4.1), (11, .val (.int .i64) .n t78_11), (12, .val (.box (.st [.int .i64, .int .i64, .int .i64])) (.b .n) t12_13), (76, .val (.list (.st [.int .i64, .int .i64, .int .i64])) .n t0_1), (77, .val (.int .i64) .n t77_10), (78, .val (.int .i64) .n t78_11), (85, .val (.list (.st [.int .i64, .int .i64, .int .i64])) .n t85_14), (86, .val (.int .i64) .n t86_15), (87, .val (.int .i64) .n t87_16)]) rfl ?_
                  refine tr_skip ?_
                  refine tr_rg hP tabOk hsp fun A hA M hM => ?_
                  cbv
                  refine hM _ ?_
                  exact Exists.intro _ (And.intro (Option.some.inj H).symm (by subst hA; rfl))
              · replace H := if_f H hc
                refine tr_keep [0, 5, 11, 12, 76, 77, 78, 85, 86, 87] (σ' := mkSl 115 0 [(0, .val (.list (.st [.int .i64, .int .i64, .int .i64])) .n t0_1), (5, .val (.list (.int .i64)) (.l .n) r_4.1), (11, .val (.int .i64) .n t78_11), (12, .val (.box (.st [.int .i64, .int .i64, .int .i64])) (.b .n) t12_13), (76, .val (.list (.st [.int .i64, .int .i64, .int .i64])) .n t0_1), (77, .val (.int .i64) .n t77_10), (78, .val (.int .i64) .n t78_11), (85, .val (.list (.st [.int .i64, .int .i64, .int .i64])) .n t85_14), (86, .val (.int .i64) .n t86_15), (87, .val (.int .i64) .n t87_16)]) rfl ?_
                refine tr_exit ?_
                exact And.intro rfl (Exists.intro _ (And.intro (Option.some.inj H).symm (by rfl)))
          · replace H := if_f H hc
            refine tr_keep [0, 5, 76, 77, 78] (σ' := mkSl 115 0 [(0, .val (.list (.st [.int .i64, .int .i64, .int .i64])) .n t0_1), (5, .val (.list (.int .i64)) (.l .n) r_4.1), (76, .val (.list (.st [.int .i64, .int .i64, .int .i64])) .n t0_1), (77, .val (.int .i64) .n t77_10), (78, .val (.int .i64) .n t78_11)]) rfl ?_
            refine tr_exit ?_
            exact And.intro rfl (Exists.intro _ (And.intro (Option.some.inj H).symm (by rfl)))
      · obtain ⟨t60_7, rfl⟩ : ∃ v, v = x := ⟨x, rfl⟩
        replace H : StampAhead_L1 r_4 r_5 t59_6 t60_7 = some r1 := H
        unfold StampAhead_L1 at H
        refine tr_seq ?_
        refine tr_rg hP tabOk hsp fun A hA M hM => ?_
        cbv
        refine hM _ ?_
        refine tr_seq ?_
        refine tr_keep [0, 5, 7, 58, 59, 60, 61] (σ' := mkSl 115 0 [(0, .val (.list (.st [.int .i64, .int .i64, .int .i64])) .n t0_1), (5, .val (.list (.int .i64)) (.l .n) r_4.1), (7, .val (.list (.st [.int .i64, .int .i64])) (.l .n) r_5.1), (58, .bor 7 []), (59, .val (.int .i64) .n t59_6), (60, .val (.int .i64) .n t60_7), (61, .val (.bool) .n (decide (t60_7 < t59_6)))]) (by subst hA; rfl) ?_
        clear hM hA M A
        refine tr_cond rfl (fun hc => ?_) (fun hc => ?_)
        · replace H := if_t H hc
          refine tr_keep [0, 5, 7, 58, 59, 60] (σ' := mkSl 115 0 [(0, .val (.list (.st [.int .i64, .int .i64, .int .i64])) .n t0_1), (5, .val (.list (.int .i64)) (.l .n) r_4.1), (7, .val (.list (.st [.int .i64, .int .i64])) (.l .n) r_5.1), (58, .bor 7 []), (59, .val (.int .i64) .n t59_6), (60, .val (.int .i64) .n t60_7)]) rfl ?_
          refine tr_skip ?_
          refine tr_seq ?_
          refine tr_block ?_
          refine tr_seq ?_
          refine tr_rg hP tabOk hsp fun A hA M hM => ?_
          cbv
          obtain ⟨ob1, H⟩ := ck_out H
          refine ⟨by subst hA; exact ob1, hM _ ?_⟩
          refine tr_seq ?_
          refine tr_keepL [0, 5, 7, 10, 58, 59, 60] (fun t10_9 : (Int × Int × Unit) => mkSl 115 0 [(0, .val (.list (.st [.int .i64, .int .i64, .int .i64])) .n t0_1), (5, .val (.list (.int .i64)) (.l .n) r_4.1), (7, .val (.list (.st [.int .i64, .int .i64])) (.l .n) r_5.1), (10, .val (.box (.st [.int .i64, .int .i64])) (.b .n) t10_9), (58, .bor 7 []), (59, .val (.int .i64) .n t59_6), (60, .val (.int .i64) .n t60_7)]) H (by subst hA; rfl) (fun t10_9 H => ?_)
          clear ob1 hM hA M A
          refine tr_rg hP tabOk hsp fun A hA M hM => ?_
          cbv
          obtain ⟨ob1, H⟩ := ck_out H
          obtain ⟨ob2, H⟩ := ck_out H
          refine ⟨by subst hA; exact ob1, by subst hA; exact ob2, hM _ ?_⟩
          refine tr_keep [0, 5, 7, 58, 59, 60, 74] (σ' := mkSl 115 0 [(0, .val (.list (.st [.int .i64, .int .i64, .int .i64])) .n t0_1), (5, .val (.list (.int .i64)) (.l .n) r_4.1), (7, .val (.list (.st [.int .i64, .int .i64])) (.l .n) r_5.1), (58, .bor 7 []), (59, .val (.int .i64) .n t59_6), (60, .val (.int .i64) .n t60_7), (74, .val (.bool) .n (decide ((r_4.1.getD t10_9.1.toNat (0 : Int)) ≥ (r_4.1.getD t10_9.2.1.toNat (0 : Int)))))]) (by subst hA; rfl) ?_
          clear ob2 ob1 hM hA M A
          refine tr_cond rfl (fun hc => ?_) (fun hc => ?_)
          · replace H := if_t H hc
            refine tr_keep [0, 5, 7, 58, 59, 60] (σ' := mkSl 115 0 [(0, .val (.list (.st [.int .i64, .int .i64, .int .i64])) .n t0_1), (5, .val (.list (.int .i64)) (.l .n) r_4.1), (7, .val (.list (.st [.int .i64, .int .i64])) (.l .n) r_5.1), (58, .bor 7 []), (59, .val (.int .i64) .n t59_6), (60, .val (.int .i64) .n t60_7)]) rfl ?_
            refine tr_seq ?_
            refine tr_rg hP tabOk hsp fun A hA M hM => ?_
            cbv
            refine hM _ ?_
            refine tr_ret ?_
            have hr := Option.some.inj H
            refine Exists.intro _ (And.intro hr.symm (fun hr => ?_))
            subst hr
            subst hA
            exact rfl
          · replace H := if_f H hc
            refine tr_keep [0, 5, 7, 58, 59, 60] (σ' := mkSl 115 0 [(0, .val (.list (.st [.int .i64, .int .i64, .int .i64])) .n t0_1), (5, .val (.list (.int .i64)) (.l .n) r_4.1), (7, .val (.list (.st [.int .i64, .int .i64])) (.l .n) r_5.1), (58, .bor 7 []), (59, .val (.int .i64) .n t59_6), (60, .val (.int .i64) .n t60_7)]) rfl ?_
            refine tr_skip ?_
            refine tr_rg hP tabOk hsp fun A hA M hM => ?_
            cbv
            refine hM _ ?_
            exact Exists.intro _ (And.intro (Option.some.inj H).symm (by subst hA; rfl))
        · replace H := if_f H hc
          refine tr_keep [0, 5, 7, 58, 59, 60] (σ' := mkSl 115 0 [(0, .val (.list (.st [.int .i64, .int .i64, .int .i64])) .n t0_1), (5, .val (.list (.int .i64)) (.l .n) r_4.1), (7, .val (.list (.st [.int .i64, .int .i64])) (.l .n) r_5.1), (58, .bor 7 []), (59, .val (.int .i64) .n t59_6), (60, .val (.int .i64) .n t60_7)]) rfl ?_
          refine tr_exit ?_
          exact And.intro rfl (Exists.intro _ (And.intro (Option.some.inj H).symm (by rfl)))
theorem StampAhead_sp : ∃ (pg : PT.denL [.list (.st [.int .i64, .int .i64, .int .i64])] → Prop) (fg : PT.denL [.list (.st [.int .i64, .int .i64, .int .i64])] → PT.denL [.bool]), SpecRuns Try.prog 8 ⟨[.list (.st [.int .i64, .int .i64, .int .i64])], [.v], [.bool], [.n], pg, fg⟩ ∧ (∀ {a1 : List ((Int × Int × Int × Unit))} {y : Bool}, StampAhead a1 = some y → pg (a1, ()) ∧ y = (fg (a1, ())).1) ∧ (∀ {a1 : List ((Int × Int × Int × Unit))}, (StampAhead a1).isSome = true → pg (a1, ())) ∧ ∀ {a1 : List ((Int × Int × Int × Unit))}, (StampAhead a1).getD false = (fg (a1, ())).1 := by
  obtain ⟨pg, fg, h, hc, hi, hd⟩ := spec_hide StampAhead_runs
  refine ⟨pg, fg, h, ?_, ?_, ?_⟩
  · intro a1 y e
    obtain ⟨h1, h2⟩ := hc (a1, ()) (y, ()) (congrArg (Option.map fun r => (r, ())) e)
    exact ⟨h1, by first | (rw [h2]; done) | (rw [h2]; rfl)⟩
  · intro a1
    intro e
    exact hi (a1, ()) (map_isSome e)
  · intro a1
    rw [hd (a1, ())]
    cases StampAhead a1 <;> rfl
end Go.Proofs.Ytcghecmefpldmaa.Vc
