/- Functions of the program as functions that may fail, and that the code computes them (printed). Each theorem bears its conditions itself. -/
import Derived.Test.YtcghecmefpldmaaVcDefs
import Derived.Test.YtcghecmefpldmaaVcTab
import Derived.Test.YtcghecmefpldmaaVcQvectQVectors
import Derived.Test.YtcghecmefpldmaaVcQstampQAhead
import Derived.Test.YtcghecmefpldmaaVcQslicesQContainsQLPairQPair
import Derived.Test.YtcghecmefpldmaaVcQvectQCompare
open Go Go.Proofs.Ytcghecmefpldmaa.Sy Go.Proofs
set_option maxHeartbeats 4000000
set_option maxRecDepth 100000
set_option linter.unusedVariables false
set_option linter.unusedSimpArgs false
namespace Go.Proofs.Ytcghecmefpldmaa.Vc
theorem VectTells_runs : SpecRuns Try.prog 6 (oSpec [.list (.st [.int .i64, .int .i64, .int .i64])] [.v] [.bool] [.n] fun x => (VectTells x.1).map fun r => (r, ())) := by
  obtain ⟨pg16, fg16, hs16, hc16, hi16, hd16⟩ := vect_Vectors_sp
  obtain ⟨pg18, fg18, hs18, hc18, hi18, hd18⟩ := stamp_Ahead_sp
  obtain ⟨pg19, fg19, hs19, hc19, hi19, hd19⟩ := slices_Contains_LPair_Pair_sp
  obtain ⟨pg12, fg12, hs12, hc12, hi12, hd12⟩ := vect_Compare_sp
  have hsp : SpecsOk Try.prog [(16, ⟨[.list (.st [.int .i64, .int .i64, .int .i64])], [.v], [.list (.arr 6 (.int .i64)), .int .i64], [.l .n, .n], pg16, fg16⟩), (18, ⟨[.list (.st [.int .i64, .int .i64, .int .i64])], [.v], [.list (.st [.int .i64, .int .i64]), .int .i64], [.l .n, .n], pg18, fg18⟩), (19, ⟨[.list (.st [.int .i64, .int .i64]), .st [.int .i64, .int .i64]], [.v, .v], [.bool], [.n], pg19, fg19⟩), (12, ⟨[.arr 6 (.int .i64), .arr 6 (.int .i64)], [.v, .v], [.int .i64], [.n], pg12, fg12⟩)] := (specsOk_cons Try.func16 (by kernel_rfl) (by kernel_rfl) hs16 (specsOk_cons Try.func18 (by kernel_rfl) (by kernel_rfl) hs18 (specsOk_cons Try.func19 (by kernel_rfl) (by kernel_rfl) hs19 (specsOk_cons Try.func12 (by kernel_rfl) (by kernel_rfl) hs12 specsOk_nil))))
  refine runs_of_o tabOk Try.func6 rfl (Nat.le_of_ble_eq_true rfl) rfl ?_
  rintro E ⟨(t0_1 : List ((Int × Int × Int × Unit))), ⟨⟩⟩ y hP H hw
  obtain ⟨z, H1, rfl⟩ := map_out H
  replace H : VectTells t0_1 = some z := H1
  clear hw H1
  unfold VectTells at H
  refine tr_keep [0] (σ' := mkSl 103 0 [(0, .val (.list (.st [.int .i64, .int .i64, .int .i64])) .n t0_1)]) rfl ?_
  refine tr_seq ?_
  refine tr_rg hP tabOk hsp fun A hA M hM => ?_
  cbv
  refine hM _ ?_
  refine tr_seq ?_
  refine tr_seq ?_
  refine tr_keep [0] (σ' := mkSl 103 0 [(0, .val (.list (.st [.int .i64, .int .i64, .int .i64])) .n t0_1)]) (by subst hA; rfl) ?_
  clear hM hA M A
  refine tr_rg hP tabOk hsp fun A hA M hM => ?_
  cbv
  obtain ⟨r_2, hr1, H⟩ := bind_out H
  obtain ⟨pq1, eq1⟩ := hc16 hr1
  refine ⟨by subst hA; subst eq1; exact pq1, hM _ ?_⟩
  refine tr_seq ?_
  refine tr_keep [0, 3, 4] (σ' := mkSl 103 0 [(0, .val (.list (.st [.int .i64, .int .i64, .int .i64])) .n t0_1), (3, .val (.list (.arr 6 (.int .i64))) (.l .n) r_2.1), (4, .val (.int .i64) .n r_2.2)]) (by subst hA; subst eq1; rfl) ?_
  clear pq1 eq1 hr1 hM hA M A
  refine tr_rg hP tabOk hsp fun A hA M hM => ?_
  cbv
  obtain ⟨ob1, H⟩ := ck_out H
  refine ⟨by subst hA; exact ob1, hM _ ?_⟩
  refine tr_keep [0, 32] (σ' := mkSl 103 0 [(0, .val (.list (.st [.int .i64, .int .i64, .int .i64])) .n t0_1), (32, .val (.bool) .n (((r_2.2 != (0 : Int)) || ((r_2.1.length : Int) != (2 : Int))) || (!(eqA6I (r_2.1.getD 1 (List.replicate 6 (0 : Int))) [(1 : Int), (1 : Int), (0 : Int), (0 : Int), (0 : Int), (0 : Int)]))))]) (by subst hA; rfl) ?_
  clear ob1 hM hA M A
  refine tr_cond rfl (fun hc => ?_) (fun hc => ?_)
  · replace H := if_t H hc
    refine tr_keep [0] (σ' := mkSl 103 0 [(0, .val (.list (.st [.int .i64, .int .i64, .int .i64])) .n t0_1)]) rfl ?_
    refine tr_seq ?_
    refine tr_rg hP tabOk hsp fun A hA M hM => ?_
    cbv
    refine hM _ ?_
    refine tr_ret ?_
    have hr := Option.some.inj H
    subst hr
    subst hA
    exact rfl
  · replace H := if_f H hc
    refine tr_keep [0] (σ' := mkSl 103 0 [(0, .val (.list (.st [.int .i64, .int .i64, .int .i64])) .n t0_1)]) rfl ?_
    refine tr_skip ?_
    refine tr_seq ?_
    refine tr_rg hP tabOk hsp fun A hA M hM => ?_
    cbv
    obtain ⟨r_3, hr1, H⟩ := bind_out H
    obtain ⟨pq1, eq1⟩ := hc16 hr1
    refine ⟨by subst hA; subst eq1; exact pq1, hM _ ?_⟩
    refine tr_seq ?_
    refine tr_keep [0, 5, 6] (σ' := mkSl 103 0 [(0, .val (.list (.st [.int .i64, .int .i64, .int .i64])) .n t0_1), (5, .val (.list (.arr 6 (.int .i64))) (.l .n) r_3.1), (6, .val (.int .i64) .n r_3.2)]) (by subst hA; subst eq1; rfl) ?_
    clear pq1 eq1 hr1 hM hA M A
    refine tr_rg hP tabOk hsp fun A hA M hM => ?_
    cbv
    obtain ⟨r_4, hr1, H⟩ := bind_out H
    obtain ⟨pq1, eq1⟩ := hc18 hr1
    refine ⟨by subst hA; subst eq1; exact pq1, hM _ ?_⟩
    refine tr_seq ?_
    refine tr_seq ?_
    refine tr_keep [0, 5, 6, 7, 8] (σ' := mkSl 103 0 [(0, .val (.list (.st [.int .i64, .int .i64, .int .i64])) .n t0_1), (5, .val (.list (.arr 6 (.int .i64))) (.l .n) r_3.1), (6, .val (.int .i64) .n r_3.2), (7, .val (.list (.st [.int .i64, .int .i64])) (.l .n) r_4.1), (8, .val (.int .i64) .n r_4.2)]) (by subst hA; subst eq1; rfl) ?_
    clear pq1 eq1 hr1 hM hA M A
    refine tr_rg hP tabOk hsp fun A hA M hM => ?_
    cbv
    refine hM _ ?_
    refine tr_keep [0, 5, 6, 7, 8, 48] (σ' := mkSl 103 0 [(0, .val (.list (.st [.int .i64, .int .i64, .int .i64])) .n t0_1), (5, .val (.list (.arr 6 (.int .i64))) (.l .n) r_3.1), (6, .val (.int .i64) .n r_3.2), (7, .val (.list (.st [.int .i64, .int .i64])) (.l .n) r_4.1), (8, .val (.int .i64) .n r_4.2), (48, .val (.bool) .n ((r_3.2 != (0 : Int)) || (r_4.2 != (0 : Int))))]) (by subst hA; rfl) ?_
    clear hM hA M A
    refine tr_cond rfl (fun hc => ?_) (fun hc => ?_)
    · replace H := if_t H hc
      refine tr_keep [0, 5, 6, 7, 8] (σ' := mkSl 103 0 [(0, .val (.list (.st [.int .i64, .int .i64, .int .i64])) .n t0_1), (5, .val (.list (.arr 6 (.int .i64))) (.l .n) r_3.1), (6, .val (.int .i64) .n r_3.2), (7, .val (.list (.st [.int .i64, .int .i64])) (.l .n) r_4.1), (8, .val (.int .i64) .n r_4.2)]) rfl ?_
      refine tr_seq ?_
      refine tr_rg hP tabOk hsp fun A hA M hM => ?_
      cbv
      refine hM _ ?_
      refine tr_ret ?_
      have hr := Option.some.inj H
      subst hr
      subst hA
      exact rfl
    · replace H := if_f H hc
      refine tr_keep [0, 5, 6, 7, 8] (σ' := mkSl 103 0 [(0, .val (.list (.st [.int .i64, .int .i64, .int .i64])) .n t0_1), (5, .val (.list (.arr 6 (.int .i64))) (.l .n) r_3.1), (6, .val (.int .i64) .n r_3.2), (7, .val (.list (.st [.int .i64, .int .i64])) (.l .n) r_4.1), (8, .val (.int .i64) .n r_4.2)]) rfl ?_
      refine tr_skip ?_
      refine tr_seq ?_
      refine tr_seq ?_
      refine tr_rg hP tabOk hsp fun A hA M hM => ?_
      cbv
      refine hM _ ?_
      refine tr_block ?_
      refine tr_keepL [0, 5, 7, 58, 59] (fun t58_5 : Int => mkSl 103 0 [(0, .val (.list (.st [.int .i64, .int .i64, .int .i64])) .n t0_1), (5, .val (.list (.arr 6 (.int .i64))) (.l .n) r_3.1), (7, .val (.list (.st [.int .i64, .int .i64])) (.l .n) r_4.1), (58, .val (.int .i64) .n t58_5), (59, .val (.int .i64) .n (0 : Int))]) H (by subst hA; rfl) (fun t58_5 H => ?_)
      clear hM hA M A
      obtain ⟨q, hq, Hl, Hr⟩ := bindE_out H
      refine tr_loopE 0 (fun x : Int => VectTells_L1 t0_1 r_3 r_4 t58_5 x) (fun x : Int => mkSl 103 0 [(0, .val (.list (.st [.int .i64, .int .i64, .int .i64])) .n t0_1), (5, .val (.list (.arr 6 (.int .i64))) (.l .n) r_3.1), (7, .val (.list (.st [.int .i64, .int .i64])) (.l .n) r_4.1), (58, .val (.int .i64) .n t58_5), (59, .val (.int .i64) .n x)]) [0, 5, 7, 58, 59] (fun q_7 : Unit => mkSl 103 0 []) [] hq rfl Hr (fun q_7 hl σ' h => ?_) (fun x r1 H => ?_)
      · replace H := Hl q_7 hl
        refine tr_keep [] h ?_
        refine tr_seq ?_
        refine tr_rg hP tabOk hsp fun A hA M hM => ?_
        cbv
        refine hM _ ?_
        refine tr_ret ?_
        have hr := Option.some.inj H
        subst hr
        subst hA
        exact rfl
      · obtain ⟨t59_6, rfl⟩ : ∃ v, v = x := ⟨x, rfl⟩
        replace H : VectTells_L1 t0_1 r_3 r_4 t58_5 t59_6 = some r1 := H
        unfold VectTells_L1 at H
        refine tr_seq ?_
        refine tr_rg hP tabOk hsp fun A hA M hM => ?_
        cbv
        refine hM _ ?_
        refine tr_seq ?_
        refine tr_keep [0, 5, 7, 58, 59, 60] (σ' := mkSl 103 0 [(0, .val (.list (.st [.int .i64, .int .i64, .int .i64])) .n t0_1), (5, .val (.list (.arr 6 (.int .i64))) (.l .n) r_3.1), (7, .val (.list (.st [.int .i64, .int .i64])) (.l .n) r_4.1), (58, .val (.int .i64) .n t58_5), (59, .val (.int .i64) .n t59_6), (60, .val (.bool) .n (decide (t59_6 < t58_5)))]) (by subst hA; rfl) ?_
        clear hM hA M A
        refine tr_cond rfl (fun hc => ?_) (fun hc => ?_)
        · replace H := if_t H hc
          refine tr_keep [0, 5, 7, 58, 59] (σ' := mkSl 103 0 [(0, .val (.list (.st [.int .i64, .int .i64, .int .i64])) .n t0_1), (5, .val (.list (.arr 6 (.int .i64))) (.l .n) r_3.1), (7, .val (.list (.st [.int .i64, .int .i64])) (.l .n) r_4.1), (58, .val (.int .i64) .n t58_5), (59, .val (.int .i64) .n t59_6)]) rfl ?_
          refine tr_skip ?_
          refine tr_seq ?_
          refine tr_block ?_
          refine tr_seq ?_
          refine tr_rg hP tabOk hsp fun A hA M hM => ?_
          cbv
          refine hM _ ?_
          refine tr_seq ?_
          refine tr_keep [0, 5, 7, 9, 58, 59] (σ' := mkSl 103 0 [(0, .val (.list (.st [.int .i64, .int .i64, .int .i64])) .n t0_1), (5, .val (.list (.arr 6 (.int .i64))) (.l .n) r_3.1), (7, .val (.list (.st [.int .i64, .int .i64])) (.l .n) r_4.1), (9, .val (.int .i64) .n t59_6), (58, .val (.int .i64) .n t58_5), (59, .val (.int .i64) .n t59_6)]) (by subst hA; rfl) ?_
          clear hM hA M A
          refine tr_rg hP tabOk hsp fun A hA M hM => ?_
          cbv
          refine hM _ ?_
          refine tr_block ?_
          refine tr_keepL [0, 5, 7, 9, 58, 59, 63, 64] (fun t63_8 : Int => mkSl 103 0 [(0, .val (.list (.st [.int .i64, .int .i64, .int .i64])) .n t0_1), (5, .val (.list (.arr 6 (.int .i64))) (.l .n) r_3.1), (7, .val (.list (.st [.int .i64, .int .i64])) (.l .n) r_4.1), (9, .val (.int .i64) .n t59_6), (58, .val (.int .i64) .n t58_5), (59, .val (.int .i64) .n t59_6), (63, .val (.int .i64) .n t63_8), (64, .val (.int .i64) .n (0 : Int))]) H (by subst hA; rfl) (fun t63_8 H => ?_)
          clear hM hA M A
          obtain ⟨q, hq, Hl, Hr⟩ := bindE_out H
          refine tr_loopE 2 (fun x : Int => VectTells_L2 r_3 r_4 t59_6 t63_8 x) (fun x : Int => mkSl 103 0 [(0, .val (.list (.st [.int .i64, .int .i64, .int .i64])) .n t0_1), (5, .val (.list (.arr 6 (.int .i64))) (.l .n) r_3.1), (7, .val (.list (.st [.int .i64, .int .i64])) (.l .n) r_4.1), (9, .val (.int .i64) .n t59_6), (58, .val (.int .i64) .n t58_5), (59, .val (.int .i64) .n t59_6), (63, .val (.int .i64) .n t63_8), (64, .val (.int .i64) .n x)]) [0, 5, 7, 9, 58, 59, 63, 64] (fun q_10 : Unit => mkSl 103 0 [(0, .val (.list (.st [.int .i64, .int .i64, .int .i64])) .n t0_1), (5, .val (.list (.arr 6 (.int .i64))) (.l .n) r_3.1), (7, .val (.list (.st [.int .i64, .int .i64])) (.l .n) r_4.1), (58, .val (.int .i64) .n t58_5), (59, .val (.int .i64) .n t59_6)]) [0, 5, 7, 58, 59] hq rfl Hr (fun q_10 hl σ' h => ?_) (fun x r2 H => ?_)
          · replace H := Hl q_10 hl
            refine tr_keep [0, 5, 7, 58, 59] h ?_
            refine tr_rg hP tabOk hsp fun A hA M hM => ?_
            cbv
            refine hM _ ?_
            exact Exists.intro _ (And.intro (Option.some.inj H).symm (by subst hA; rfl))
          · obtain ⟨t64_9, rfl⟩ : ∃ v, v = x := ⟨x, rfl⟩
            replace H : VectTells_L2 r_3 r_4 t59_6 t63_8 t64_9 = some r2 := H
            unfold VectTells_L2 at H
            refine tr_seq ?_
            refine tr_rg hP tabOk hsp fun A hA M hM => ?_
            cbv
            refine hM _ ?_
            refine tr_seq ?_
            refine tr_keep [0, 5, 7, 9, 58, 59, 63, 64, 65] (σ' := mkSl 103 0 [(0, .val (.list (.st [.int .i64, .int .i64, .int .i64])) .n t0_1), (5, .val (.list (.arr 6 (.int .i64))) (.l .n) r_3.1), (7, .val (.list (.st [.int .i64, .int .i64])) (.l .n) r_4.1), (9, .val (.int .i64) .n t59_6), (58, .val (.int .i64) .n t58_5), (59, .val (.int .i64) .n t59_6), (63, .val (.int .i64) .n t63_8), (64, .val (.int .i64) .n t64_9), (65, .val (.bool) .n (decide (t64_9 < t63_8)))]) (by subst hA; rfl) ?_
            clear hM hA M A
            refine tr_cond rfl (fun hc => ?_) (fun hc => ?_)
            · replace H := if_t H hc
              refine tr_keep [0, 5, 7, 9, 58, 59, 63, 64] (σ' := mkSl 103 0 [(0, .val (.list (.st [.int .i64, .int .i64, .int .i64])) .n t0_1), (5, .val (.list (.arr 6 (.int .i64))) (.l .n) r_3.1), (7, .val (.list (.st [.int .i64, .int .i64])) (.l .n) r_4.1), (9, .val (.int .i64) .n t59_6), (58, .val (.int .i64) .n t58_5), (59, .val (.int .i64) .n t59_6), (63, .val (.int .i64) .n t63_8), (64, .val (.int .i64) .n t64_9)]) rfl ?_
              refine tr_skip ?_
              refine tr_seq ?_
              refine tr_block ?_
              refine tr_seq ?_
              refine tr_rg hP tabOk hsp fun A hA M hM => ?_
              cbv
              refine hM _ ?_
              refine tr_seq ?_
              refine tr_keep [0, 5, 7, 9, 10, 58, 59, 63, 64] (σ' := mkSl 103 0 [(0, .val (.list (.st [.int .i64, .int .i64, .int .i64])) .n t0_1), (5, .val (.list (.arr 6 (.int .i64))) (.l .n) r_3.1), (7, .val (.list (.st [.int .i64, .int .i64])) (.l .n) r_4.1), (9, .val (.int .i64) .n t59_6), (10, .val (.int .i64) .n t64_9), (58, .val (.int .i64) .n t58_5), (59, .val (.int .i64) .n t59_6), (63, .val (.int .i64) .n t63_8), (64, .val (.int .i64) .n t64_9)]) (by subst hA; rfl) ?_
              clear hM hA M A
              refine tr_rg hP tabOk hsp fun A hA M hM => ?_
              cbv
              obtain ⟨r_11, hr1, H⟩ := bind_out H
              obtain ⟨pq1, eq1⟩ := hc19 hr1
              refine ⟨by subst hA; subst eq1; exact pq1, hM _ ?_⟩
              refine tr_seq ?_
              refine tr_keep [0, 5, 7, 9, 10, 11, 58, 59, 63, 64] (σ' := mkSl 103 0 [(0, .val (.list (.st [.int .i64, .int .i64, .int .i64])) .n t0_1), (5, .val (.list (.arr 6 (.int .i64))) (.l .n) r_3.1), (7, .val (.list (.st [.int .i64, .int .i64])) (.l .n) r_4.1), (9, .val (.int .i64) .n t59_6), (10, .val (.int .i64) .n t64_9), (11, .val (.bool) .n r_11), (58, .val (.int .i64) .n t58_5), (59, .val (.int .i64) .n t59_6), (63, .val (.int .i64) .n t63_8), (64, .val (.int .i64) .n t64_9)]) (by subst hA; subst eq1; rfl) ?_
              clear pq1 eq1 hr1 hM hA M A
              refine tr_rg hP tabOk hsp fun A hA M hM => ?_
              cbv
              obtain ⟨ob1, H⟩ := ck_out H
              obtain ⟨ob2, H⟩ := ck_out H
              obtain ⟨r_12, hr3, H⟩ := bind_out H
              obtain ⟨pq3, eq3⟩ := hc12 hr3
              obtain ⟨ob4, H⟩ := ck_out H
              obtain ⟨ob5, H⟩ := ck_out H
              obtain ⟨r_13, er6, H⟩ := letO_out H
              obtain ⟨ob6, H⟩ := ck_out H
              have eq6 := er6.trans hd12
              refine ⟨by subst hA; exact ob1, by subst hA; exact ob2, by subst hA; subst eq3; exact pq3, by subst hA; subst eq3; exact ob4, by subst hA; subst eq3; exact ob5, by subst hA; subst eq3; subst eq6; exact fun h0 h1 => hi12 (ob6 h0 h1), hM _ ?_⟩
              refine tr_keep [0, 5, 7, 9, 58, 59, 63, 64, 100] (σ' := mkSl 103 0 [(0, .val (.list (.st [.int .i64, .int .i64, .int .i64])) .n t0_1), (5, .val (.list (.arr 6 (.int .i64))) (.l .n) r_3.1), (7, .val (.list (.st [.int .i64, .int .i64])) (.l .n) r_4.1), (9, .val (.int .i64) .n t59_6), (58, .val (.int .i64) .n t58_5), (59, .val (.int .i64) .n t59_6), (63, .val (.int .i64) .n t63_8), (64, .val (.int .i64) .n t64_9), (100, .val (.bool) .n ((!(eqB r_11 (r_12 == (1 : Int)))) || ((t59_6 != t64_9) && (r_13 == (0 : Int)))))]) (by subst hA; subst eq3; subst eq6; rfl) ?_
              clear ob6 eq6 er6 ob5 ob4 pq3 eq3 hr3 ob2 ob1 hM hA M A
              refine tr_cond rfl (fun hc => ?_) (fun hc => ?_)
              · replace H := if_t H hc
                refine tr_keep [0, 5, 7, 9, 58, 59, 63, 64] (σ' := mkSl 103 0 [(0, .val (.list (.st [.int .i64, .int .i64, .int .i64])) .n t0_1), (5, .val (.list (.arr 6 (.int .i64))) (.l .n) r_3.1), (7, .val (.list (.st [.int .i64, .int .i64])) (.l .n) r_4.1), (9, .val (.int .i64) .n t59_6), (58, .val (.int .i64) .n t58_5), (59, .val (.int .i64) .n t59_6), (63, .val (.int .i64) .n t63_8), (64, .val (.int .i64) .n t64_9)]) rfl ?_
                refine tr_seq ?_
                refine tr_rg hP tabOk hsp fun A hA M hM => ?_
                cbv
                refine hM _ ?_
                refine tr_ret ?_
                have hr := Option.some.inj H
                refine Exists.intro _ (And.intro hr.symm (fun hr => ?_))
                refine Exists.intro _ (And.intro hr.symm (fun hr => ?_))
                subst hr
                subst hA
                exact rfl
              · replace H := if_f H hc
                refine tr_keep [0, 5, 7, 9, 58, 59, 63, 64] (σ' := mkSl 103 0 [(0, .val (.list (.st [.int .i64, .int .i64, .int .i64])) .n t0_1), (5, .val (.list (.arr 6 (.int .i64))) (.l .n) r_3.1), (7, .val (.list (.st [.int .i64, .int .i64])) (.l .n) r_4.1), (9, .val (.int .i64) .n t59_6), (58, .val (.int .i64) .n t58_5), (59, .val (.int .i64) .n t59_6), (63, .val (.int .i64) .n t63_8), (64, .val (.int .i64) .n t64_9)]) rfl ?_
                refine tr_skip ?_
                refine tr_rg hP tabOk hsp fun A hA M hM => ?_
                cbv
                refine hM _ ?_
                exact Exists.intro _ (And.intro (Option.some.inj H).symm (by subst hA; rfl))
            · replace H := if_f H hc
              refine tr_keep [0, 5, 7, 9, 58, 59, 63, 64] (σ' := mkSl 103 0 [(0, .val (.list (.st [.int .i64, .int .i64, .int .i64])) .n t0_1), (5, .val (.list (.arr 6 (.int .i64))) (.l .n) r_3.1), (7, .val (.list (.st [.int .i64, .int .i64])) (.l .n) r_4.1), (9, .val (.int .i64) .n t59_6), (58, .val (.int .i64) .n t58_5), (59, .val (.int .i64) .n t59_6), (63, .val (.int .i64) .n t63_8), (64, .val (.int .i64) .n t64_9)]) rfl ?_
              refine tr_exit ?_
              exact And.intro rfl (Exists.intro _ (And.intro (Option.some.inj H).symm (by rfl)))
        · replace H := if_f H hc
          refine tr_keep [0, 5, 7, 58, 59] (σ' := mkSl 103 0 [(0, .val (.list (.st [.int .i64, .int .i64, .int .i64])) .n t0_1), (5, .val (.list (.arr 6 (.int .i64))) (.l .n) r_3.1), (7, .val (.list (.st [.int .i64, .int .i64])) (.l .n) r_4.1), (58, .val (.int .i64) .n t58_5), (59, .val (.int .i64) .n t59_6)]) rfl ?_
          refine tr_exit ?_
          exact And.intro rfl (Exists.intro _ (And.intro (Option.some.inj H).symm (by rfl)))
theorem VectTells_sp : ∃ (pg : PT.denL [.list (.st [.int .i64, .int .i64, .int .i64])] → Prop) (fg : PT.denL [.list (.st [.int .i64, .int .i64, .int .i64])] → PT.denL [.bool]), SpecRuns Try.prog 6 ⟨[.list (.st [.int .i64, .int .i64, .int .i64])], [.v], [.bool], [.n], pg, fg⟩ ∧ (∀ {a1 : List ((Int × Int × Int × Unit))} {y : Bool}, VectTells a1 = some y → pg (a1, ()) ∧ y = (fg (a1, ())).1) ∧ (∀ {a1 : List ((Int × Int × Int × Unit))}, (VectTells a1).isSome = true → pg (a1, ())) ∧ ∀ {a1 : List ((Int × Int × Int × Unit))}, (VectTells a1).getD false = (fg (a1, ())).1 := by
  obtain ⟨pg, fg, h, hc, hi, hd⟩ := spec_hide VectTells_runs
  refine ⟨pg, fg, h, ?_, ?_, ?_⟩
  · intro a1 y e
    obtain ⟨h1, h2⟩ := hc (a1, ()) (y, ()) (congrArg (Option.map fun r => (r, ())) e)
    exact ⟨h1, by first | (rw [h2]; done) | (rw [h2]; rfl)⟩
  · intro a1
    intro e
    exact hi (a1, ()) (map_isSome e)
  · intro a1
    rw [hd (a1, ())]
    cases VectTells a1 <;> rfl
end Go.Proofs.Ytcghecmefpldmaa.Vc
