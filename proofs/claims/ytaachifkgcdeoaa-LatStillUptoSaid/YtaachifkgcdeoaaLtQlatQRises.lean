/- Functions of the program as functions that may fail, and that the code computes them (printed). Each theorem bears its conditions itself. -/
import Derived.Test.YtaachifkgcdeoaaLtDefs
import Derived.Test.YtaachifkgcdeoaaLtTab
import Derived.Test.YtaachifkgcdeoaaLtQlatQCheck
open Go Go.Proofs.Ytaachifkgcdeoaa.Sy Go.Proofs
set_option maxHeartbeats 4000000
set_option maxRecDepth 100000
set_option cbv.maxSteps 10000000
set_option linter.unusedVariables false
set_option linter.unusedSimpArgs false
namespace Go.Proofs.Ytaachifkgcdeoaa.Lt
theorem lat_Rises_runs : SpecRuns Try.prog 16 (oSpec [.list (.int .u16), .list (.int .i64)] [.v, .v] [.int .i64] [.n] fun x => (lat_Rises x.1 x.2.1).map fun r => (r, ())) := by
  obtain ⟨pg9, fg9, hs9, hc9, hi9, hd9⟩ := lat_Check_sp
  have hsp : SpecsOk Try.prog [(9, ⟨[.list (.int .u16)], [.v], [.int .i64], [.n], pg9, fg9⟩)] := (specsOk_cons Try.func9 (by kernel_rfl) (by kernel_rfl) hs9 specsOk_nil)
  refine runs_of_o tabOk Try.func16 rfl (Nat.le_of_ble_eq_true rfl) rfl ?_
  rintro E ⟨(t0_1 : List Int), (t1_2 : List Int), ⟨⟩⟩ y hP H hw
  obtain ⟨z, H1, rfl⟩ := map_out H
  replace H : lat_Rises t0_1 t1_2 = some z := H1
  clear hw H1
  unfold lat_Rises at H
  refine tr_keep [0, 1] (σ' := mkSl 83 0 [(0, .val (.list (.int .u16)) .n t0_1), (1, .val (.list (.int .i64)) .n t1_2)]) rfl ?_
  refine tr_seq ?_
  refine tr_rg hP tabOk hsp fun A hA M hM => ?_
  cbv
  refine hM _ ?_
  refine tr_seq ?_
  refine tr_seq ?_
  refine tr_keep [0, 1] (σ' := mkSl 83 0 [(0, .val (.list (.int .u16)) .n t0_1), (1, .val (.list (.int .i64)) .n t1_2)]) (by subst hA; rfl) ?_
  clear hM hA M A
  refine tr_rg hP tabOk hsp fun A hA M hM => ?_
  cbv
  obtain ⟨r_3, hr1, H⟩ := bind_out H
  obtain ⟨pq1, eq1⟩ := hc9 hr1
  refine ⟨by subst hA; subst eq1; exact pq1, hM _ ?_⟩
  refine tr_seq ?_
  refine tr_keep [0, 1, 5] (σ' := mkSl 83 0 [(0, .val (.list (.int .u16)) .n t0_1), (1, .val (.list (.int .i64)) .n t1_2), (5, .val (.int .i64) .n r_3)]) (by subst hA; subst eq1; rfl) ?_
  clear pq1 eq1 hr1 hM hA M A
  refine tr_rg hP tabOk hsp fun A hA M hM => ?_
  cbv
  refine hM _ ?_
  refine tr_keep [0, 1, 5, 15] (σ' := mkSl 83 0 [(0, .val (.list (.int .u16)) .n t0_1), (1, .val (.list (.int .i64)) .n t1_2), (5, .val (.int .i64) .n r_3), (15, .val (.bool) .n (r_3 != (0 : Int)))]) (by subst hA; rfl) ?_
  clear hM hA M A
  refine tr_cond rfl (fun hc => ?_) (fun hc => ?_)
  · replace H := if_t H hc
    refine tr_keep [0, 1, 5] (σ' := mkSl 83 0 [(0, .val (.list (.int .u16)) .n t0_1), (1, .val (.list (.int .i64)) .n t1_2), (5, .val (.int .i64) .n r_3)]) rfl ?_
    refine tr_seq ?_
    refine tr_rg hP tabOk hsp fun A hA M hM => ?_
    cbv
    refine hM _ ?_
    refine tr_ret ?_
    have hr := Option.some.inj H
    subst hr
    subst hA
    exact rfl
  · replace H := if_f H hc
    refine tr_keep [0, 1, 5] (σ' := mkSl 83 0 [(0, .val (.list (.int .u16)) .n t0_1), (1, .val (.list (.int .i64)) .n t1_2), (5, .val (.int .i64) .n r_3)]) rfl ?_
    refine tr_skip ?_
    refine tr_seq ?_
    refine tr_seq ?_
    refine tr_rg hP tabOk hsp fun A hA M hM => ?_
    cbv
    refine hM _ ?_
    refine tr_keep [0, 1, 21] (σ' := mkSl 83 0 [(0, .val (.list (.int .u16)) .n t0_1), (1, .val (.list (.int .i64)) .n t1_2), (21, .val (.bool) .n ((t1_2.length : Int) != (t0_1.length : Int)))]) (by subst hA; rfl) ?_
    clear hM hA M A
    refine tr_cond rfl (fun hc => ?_) (fun hc => ?_)
    · replace H := if_t H hc
      refine tr_keep [0, 1] (σ' := mkSl 83 0 [(0, .val (.list (.int .u16)) .n t0_1), (1, .val (.list (.int .i64)) .n t1_2)]) rfl ?_
      refine tr_seq ?_
      refine tr_rg hP tabOk hsp fun A hA M hM => ?_
      cbv
      refine hM _ ?_
      refine tr_ret ?_
      have hr := Option.some.inj H
      subst hr
      subst hA
      exact rfl
    · replace H := if_f H hc
      refine tr_keep [0, 1] (σ' := mkSl 83 0 [(0, .val (.list (.int .u16)) .n t0_1), (1, .val (.list (.int .i64)) .n t1_2)]) rfl ?_
      refine tr_skip ?_
      refine tr_seq ?_
      refine tr_seq ?_
      refine tr_rg hP tabOk hsp fun A hA M hM => ?_
      cbv
      refine hM _ ?_
      refine tr_block ?_
      refine tr_keepL [0, 1, 22, 23, 24] (fun t23_4 : Int => mkSl 83 0 [(0, .val (.list (.int .u16)) .n t0_1), (1, .val (.list (.int .i64)) .n t1_2), (22, .val (.list (.int .i64)) .n t1_2), (23, .val (.int .i64) .n t23_4), (24, .val (.int .i64) .n (0 : Int))]) H (by subst hA; rfl) (fun t23_4 H => ?_)
      clear hM hA M A
      obtain ⟨q, hq, Hl, Hr⟩ := bindE_out H
      refine tr_loopE 0 (fun x : Int => lat_Rises_L1 t0_1 t1_2 t23_4 x) (fun x : Int => mkSl 83 0 [(0, .val (.list (.int .u16)) .n t0_1), (1, .val (.list (.int .i64)) .n t1_2), (22, .val (.list (.int .i64)) .n t1_2), (23, .val (.int .i64) .n t23_4), (24, .val (.int .i64) .n x)]) [0, 1, 22, 23, 24] (fun q_6 : Unit => mkSl 83 0 [(0, .val (.list (.int .u16)) .n t0_1), (1, .val (.list (.int .i64)) .n t1_2)]) [0, 1] hq rfl Hr (fun q_6 hl σ' h => ?_) (fun x r1 H => ?_)
      · replace H := Hl q_6 hl
        refine tr_keep [0, 1] h ?_
        refine tr_seq ?_
        refine tr_seq ?_
        refine tr_rg hP tabOk hsp fun A hA M hM => ?_
        cbv
        refine hM _ ?_
        refine tr_block ?_
        refine tr_keepL [0, 1, 37, 38, 39] (fun t38_8 : Int => mkSl 83 0 [(0, .val (.list (.int .u16)) .n t0_1), (1, .val (.list (.int .i64)) .n t1_2), (37, .val (.list (.int .u16)) .n t0_1), (38, .val (.int .i64) .n t38_8), (39, .val (.int .i64) .n (0 : Int))]) H (by subst hA; rfl) (fun t38_8 H => ?_)
        clear hM hA M A
        obtain ⟨q, hq, Hl, Hr⟩ := bindE_out H
        refine tr_loopE 2 (fun x : Int => lat_Rises_L2 t0_1 t1_2 t38_8 x) (fun x : Int => mkSl 83 0 [(0, .val (.list (.int .u16)) .n t0_1), (1, .val (.list (.int .i64)) .n t1_2), (37, .val (.list (.int .u16)) .n t0_1), (38, .val (.int .i64) .n t38_8), (39, .val (.int .i64) .n x)]) [0, 1, 37, 38, 39] (fun q_10 : Unit => mkSl 83 0 []) [] hq rfl Hr (fun q_10 hl σ' h => ?_) (fun x r2 H => ?_)
        · replace H := Hl q_10 hl
          refine tr_keep [] h ?_
          refine tr_seq ?_
          refine tr_rg hP tabOk hsp fun A hA M hM => ?_
          cbv
          refine hM _ ?_
          refine tr_ret ?_
          have hr := Option.some.inj H
          subst hr
          subst hA
          exact rfl
        · obtain ⟨t39_9, rfl⟩ : ∃ v, v = x := ⟨x, rfl⟩
          replace H : lat_Rises_L2 t0_1 t1_2 t38_8 t39_9 = some r2 := H
          unfold lat_Rises_L2 at H
          refine tr_seq ?_
          refine tr_rg hP tabOk hsp fun A hA M hM => ?_
          cbv
          refine hM _ ?_
          refine tr_seq ?_
          refine tr_keep [0, 1, 37, 38, 39, 40] (σ' := mkSl 83 0 [(0, .val (.list (.int .u16)) .n t0_1), (1, .val (.list (.int .i64)) .n t1_2), (37, .val (.list (.int .u16)) .n t0_1), (38, .val (.int .i64) .n t38_8), (39, .val (.int .i64) .n t39_9), (40, .val (.bool) .n (decide (t39_9 < t38_8)))]) (by subst hA; rfl) ?_
          clear hM hA M A
          refine tr_cond rfl (fun hc => ?_) (fun hc => ?_)
          · replace H := if_t H hc
            refine tr_keep [0, 1, 37, 38, 39] (σ' := mkSl 83 0 [(0, .val (.list (.int .u16)) .n t0_1), (1, .val (.list (.int .i64)) .n t1_2), (37, .val (.list (.int .u16)) .n t0_1), (38, .val (.int .i64) .n t38_8), (39, .val (.int .i64) .n t39_9)]) rfl ?_
            refine tr_skip ?_
            refine tr_seq ?_
            refine tr_block ?_
            refine tr_seq ?_
            refine tr_rg hP tabOk hsp fun A hA M hM => ?_
            cbv
            obtain ⟨ob1, H⟩ := ck_out H
            refine ⟨by subst hA; exact ob1, hM _ ?_⟩
            refine tr_seq ?_
            refine tr_keepL [0, 1, 8, 9, 37, 38, 39] (fun t9_11 : Int => mkSl 83 0 [(0, .val (.list (.int .u16)) .n t0_1), (1, .val (.list (.int .i64)) .n t1_2), (8, .val (.int .i64) .n t39_9), (9, .val (.int .u16) .n t9_11), (37, .val (.list (.int .u16)) .n t0_1), (38, .val (.int .i64) .n t38_8), (39, .val (.int .i64) .n t39_9)]) H (by subst hA; rfl) (fun t9_11 H => ?_)
            clear ob1 hM hA M A
            refine tr_rg hP tabOk hsp fun A hA M hM => ?_
            cbv
            refine hM _ ?_
            refine tr_block ?_
            refine tr_keepL [0, 1, 8, 9, 37, 38, 39, 44, 45, 46] (fun t45_12 : Int => mkSl 83 0 [(0, .val (.list (.int .u16)) .n t0_1), (1, .val (.list (.int .i64)) .n t1_2), (8, .val (.int .i64) .n t39_9), (9, .val (.int .u16) .n t9_11), (37, .val (.list (.int .u16)) .n t0_1), (38, .val (.int .i64) .n t38_8), (39, .val (.int .i64) .n t39_9), (44, .val (.list (.int .u16)) .n t0_1), (45, .val (.int .i64) .n t45_12), (46, .val (.int .i64) .n (0 : Int))]) H (by subst hA; rfl) (fun t45_12 H => ?_)
            clear hM hA M A
            obtain ⟨q, hq, Hl, Hr⟩ := bindE_out H
            refine tr_loopE 4 (fun x : Int => lat_Rises_L3 t0_1 t1_2 t39_9 t9_11 t45_12 x) (fun x : Int => mkSl 83 0 [(0, .val (.list (.int .u16)) .n t0_1), (1, .val (.list (.int .i64)) .n t1_2), (8, .val (.int .i64) .n t39_9), (9, .val (.int .u16) .n t9_11), (37, .val (.list (.int .u16)) .n t0_1), (38, .val (.int .i64) .n t38_8), (39, .val (.int .i64) .n t39_9), (44, .val (.list (.int .u16)) .n t0_1), (45, .val (.int .i64) .n t45_12), (46, .val (.int .i64) .n x)]) [0, 1, 8, 9, 37, 38, 39, 44, 45, 46] (fun q_14 : Unit => mkSl 83 0 [(0, .val (.list (.int .u16)) .n t0_1), (1, .val (.list (.int .i64)) .n t1_2), (37, .val (.list (.int .u16)) .n t0_1), (38, .val (.int .i64) .n t38_8), (39, .val (.int .i64) .n t39_9)]) [0, 1, 37, 38, 39] hq rfl Hr (fun q_14 hl σ' h => ?_) (fun x r3 H => ?_)
            · replace H := Hl q_14 hl
              refine tr_keep [0, 1, 37, 38, 39] h ?_
              refine tr_rg hP tabOk hsp fun A hA M hM => ?_
              cbv
              refine hM _ ?_
              exact Exists.intro _ (And.intro (Option.some.inj H).symm (by subst hA; rfl))
            · obtain ⟨t46_13, rfl⟩ : ∃ v, v = x := ⟨x, rfl⟩
              replace H : lat_Rises_L3 t0_1 t1_2 t39_9 t9_11 t45_12 t46_13 = some r3 := H
              unfold lat_Rises_L3 at H
              refine tr_seq ?_
              refine tr_rg hP tabOk hsp fun A hA M hM => ?_
              cbv
              refine hM _ ?_
              refine tr_seq ?_
              refine tr_keep [0, 1, 8, 9, 37, 38, 39, 44, 45, 46, 47] (σ' := mkSl 83 0 [(0, .val (.list (.int .u16)) .n t0_1), (1, .val (.list (.int .i64)) .n t1_2), (8, .val (.int .i64) .n t39_9), (9, .val (.int .u16) .n t9_11), (37, .val (.list (.int .u16)) .n t0_1), (38, .val (.int .i64) .n t38_8), (39, .val (.int .i64) .n t39_9), (44, .val (.list (.int .u16)) .n t0_1), (45, .val (.int .i64) .n t45_12), (46, .val (.int .i64) .n t46_13), (47, .val (.bool) .n (decide (t46_13 < t45_12)))]) (by subst hA; rfl) ?_
              clear hM hA M A
              refine tr_cond rfl (fun hc => ?_) (fun hc => ?_)
              · replace H := if_t H hc
                refine tr_keep [0, 1, 8, 9, 37, 38, 39, 44, 45, 46] (σ' := mkSl 83 0 [(0, .val (.list (.int .u16)) .n t0_1), (1, .val (.list (.int .i64)) .n t1_2), (8, .val (.int .i64) .n t39_9), (9, .val (.int .u16) .n t9_11), (37, .val (.list (.int .u16)) .n t0_1), (38, .val (.int .i64) .n t38_8), (39, .val (.int .i64) .n t39_9), (44, .val (.list (.int .u16)) .n t0_1), (45, .val (.int .i64) .n t45_12), (46, .val (.int .i64) .n t46_13)]) rfl ?_
                refine tr_skip ?_
                refine tr_seq ?_
                refine tr_block ?_
                refine tr_seq ?_
                refine tr_rg hP tabOk hsp fun A hA M hM => ?_
                cbv
                obtain ⟨ob1, H⟩ := ck_out H
                refine ⟨by subst hA; exact ob1, hM _ ?_⟩
                refine tr_seq ?_
                refine tr_keepL [0, 1, 8, 9, 10, 11, 37, 38, 39, 44, 45, 46] (fun t11_15 : Int => mkSl 83 0 [(0, .val (.list (.int .u16)) .n t0_1), (1, .val (.list (.int .i64)) .n t1_2), (8, .val (.int .i64) .n t39_9), (9, .val (.int .u16) .n t9_11), (10, .val (.int .i64) .n t46_13), (11, .val (.int .u16) .n t11_15), (37, .val (.list (.int .u16)) .n t0_1), (38, .val (.int .i64) .n t38_8), (39, .val (.int .i64) .n t39_9), (44, .val (.list (.int .u16)) .n t0_1), (45, .val (.int .i64) .n t45_12), (46, .val (.int .i64) .n t46_13)]) H (by subst hA; rfl) (fun t11_15 H => ?_)
                clear ob1 hM hA M A
                refine tr_rg hP tabOk hsp fun A hA M hM => ?_
                cbv
                obtain ⟨ob1, H⟩ := ck_out H
                obtain ⟨ob2, H⟩ := ck_out H
                obtain ⟨ob3, H⟩ := ck_out H
                obtain ⟨ob4, H⟩ := ck_out H
                obtain ⟨ob5, H⟩ := ck_out H
                obtain ⟨ob6, H⟩ := ck_out H
                refine ⟨by subst hA; exact ob1, by subst hA; exact ob2, by subst hA; exact ob3, by subst hA; exact ob4, by subst hA; exact ob5, by subst hA; exact ob6, hM _ ?_⟩
                refine tr_keep [0, 1, 8, 9, 37, 38, 39, 44, 45, 46, 80] (σ' := mkSl 83 0 [(0, .val (.list (.int .u16)) .n t0_1), (1, .val (.list (.int .i64)) .n t1_2), (8, .val (.int .i64) .n t39_9), (9, .val (.int .u16) .n t9_11), (37, .val (.list (.int .u16)) .n t0_1), (38, .val (.int .i64) .n t38_8), (39, .val (.int .i64) .n t39_9), (44, .val (.list (.int .u16)) .n t0_1), (45, .val (.int .i64) .n t45_12), (46, .val (.int .i64) .n t46_13), (80, .val (.bool) .n (((arR .and .u16 t9_11 t11_15) == t9_11) && ((arR .and .u16 (t0_1.getD (t1_2.getD t39_9.toNat (0 : Int)).toNat (0 : Int)) (t0_1.getD (t1_2.getD t46_13.toNat (0 : Int)).toNat (0 : Int))) != (t0_1.getD (t1_2.getD t39_9.toNat (0 : Int)).toNat (0 : Int)))))]) (by subst hA; rfl) ?_
                clear ob6 ob5 ob4 ob3 ob2 ob1 hM hA M A
                refine tr_cond rfl (fun hc => ?_) (fun hc => ?_)
                · replace H := if_t H hc
                  refine tr_keep [0, 1, 8, 9, 37, 38, 39, 44, 45, 46] (σ' := mkSl 83 0 [(0, .val (.list (.int .u16)) .n t0_1), (1, .val (.list (.int .i64)) .n t1_2), (8, .val (.int .i64) .n t39_9), (9, .val (.int .u16) .n t9_11), (37, .val (.list (.int .u16)) .n t0_1), (38, .val (.int .i64) .n t38_8), (39, .val (.int .i64) .n t39_9), (44, .val (.list (.int .u16)) .n t0_1), (45, .val (.int .i64) .n t45_12), (46, .val (.int .i64) .n t46_13)]) rfl ?_
                  refine tr_seq ?_
                  refine tr_rg hP tabOk hsp fun A hA M hM => ?_
                  cbv
                  refine hM _ ?_
                  refine tr_ret ?_
                  have hr := Option.some.inj H
                  refine Exists.intro _ (And.intro hr.symm (fun hr => ?_))
                  refine Exists.intro _ (And.intro hr.symm (fun hr => ?_))
                  subst hr
                  subst hA
                  exact rfl
                · replace H := if_f H hc
                  refine tr_keep [0, 1, 8, 9, 37, 38, 39, 44, 45, 46] (σ' := mkSl 83 0 [(0, .val (.list (.int .u16)) .n t0_1), (1, .val (.list (.int .i64)) .n t1_2), (8, .val (.int .i64) .n t39_9), (9, .val (.int .u16) .n t9_11), (37, .val (.list (.int .u16)) .n t0_1), (38, .val (.int .i64) .n t38_8), (39, .val (.int .i64) .n t39_9), (44, .val (.list (.int .u16)) .n t0_1), (45, .val (.int .i64) .n t45_12), (46, .val (.int .i64) .n t46_13)]) rfl ?_
                  refine tr_skip ?_
                  refine tr_rg hP tabOk hsp fun A hA M hM => ?_
                  cbv
                  refine hM _ ?_
                  exact Exists.intro _ (And.intro (Option.some.inj H).symm (by subst hA; rfl))
              · replace H := if_f H hc
                refine tr_keep [0, 1, 8, 9, 37, 38, 39, 44, 45, 46] (σ' := mkSl 83 0 [(0, .val (.list (.int .u16)) .n t0_1), (1, .val (.list (.int .i64)) .n t1_2), (8, .val (.int .i64) .n t39_9), (9, .val (.int .u16) .n t9_11), (37, .val (.list (.int .u16)) .n t0_1), (38, .val (.int .i64) .n t38_8), (39, .val (.int .i64) .n t39_9), (44, .val (.list (.int .u16)) .n t0_1), (45, .val (.int .i64) .n t45_12), (46, .val (.int .i64) .n t46_13)]) rfl ?_
                refine tr_exit ?_
                exact And.intro rfl (Exists.intro _ (And.intro (Option.some.inj H).symm (by rfl)))
          · replace H := if_f H hc
            refine tr_keep [0, 1, 37, 38, 39] (σ' := mkSl 83 0 [(0, .val (.list (.int .u16)) .n t0_1), (1, .val (.list (.int .i64)) .n t1_2), (37, .val (.list (.int .u16)) .n t0_1), (38, .val (.int .i64) .n t38_8), (39, .val (.int .i64) .n t39_9)]) rfl ?_
            refine tr_exit ?_
            exact And.intro rfl (Exists.intro _ (And.intro (Option.some.inj H).symm (by rfl)))
      · obtain ⟨t24_5, rfl⟩ : ∃ v, v = x := ⟨x, rfl⟩
        replace H : lat_Rises_L1 t0_1 t1_2 t23_4 t24_5 = some r1 := H
        unfold lat_Rises_L1 at H
        refine tr_seq ?_
        refine tr_rg hP tabOk hsp fun A hA M hM => ?_
        cbv
        refine hM _ ?_
        refine tr_seq ?_
        refine tr_keep [0, 1, 22, 23, 24, 25] (σ' := mkSl 83 0 [(0, .val (.list (.int .u16)) .n t0_1), (1, .val (.list (.int .i64)) .n t1_2), (22, .val (.list (.int .i64)) .n t1_2), (23, .val (.int .i64) .n t23_4), (24, .val (.int .i64) .n t24_5), (25, .val (.bool) .n (decide (t24_5 < t23_4)))]) (by subst hA; rfl) ?_
        clear hM hA M A
        refine tr_cond rfl (fun hc => ?_) (fun hc => ?_)
        · replace H := if_t H hc
          refine tr_keep [0, 1, 22, 23, 24] (σ' := mkSl 83 0 [(0, .val (.list (.int .u16)) .n t0_1), (1, .val (.list (.int .i64)) .n t1_2), (22, .val (.list (.int .i64)) .n t1_2), (23, .val (.int .i64) .n t23_4), (24, .val (.int .i64) .n t24_5)]) rfl ?_
          refine tr_skip ?_
          refine tr_seq ?_
          refine tr_block ?_
          refine tr_seq ?_
          refine tr_rg hP tabOk hsp fun A hA M hM => ?_
          cbv
          obtain ⟨ob1, H⟩ := ck_out H
          refine ⟨by subst hA; exact ob1, hM _ ?_⟩
          refine tr_seq ?_
          refine tr_keepL [0, 1, 7, 22, 23, 24] (fun t7_7 : Int => mkSl 83 0 [(0, .val (.list (.int .u16)) .n t0_1), (1, .val (.list (.int .i64)) .n t1_2), (7, .val (.int .i64) .n t7_7), (22, .val (.list (.int .i64)) .n t1_2), (23, .val (.int .i64) .n t23_4), (24, .val (.int .i64) .n t24_5)]) H (by subst hA; rfl) (fun t7_7 H => ?_)
          clear ob1 hM hA M A
          refine tr_rg hP tabOk hsp fun A hA M hM => ?_
          cbv
          refine hM _ ?_
          refine tr_keep [0, 1, 22, 23, 24, 35] (σ' := mkSl 83 0 [(0, .val (.list (.int .u16)) .n t0_1), (1, .val (.list (.int .i64)) .n t1_2), (22, .val (.list (.int .i64)) .n t1_2), (23, .val (.int .i64) .n t23_4), (24, .val (.int .i64) .n t24_5), (35, .val (.bool) .n ((decide (t7_7 < (0 : Int))) || (decide (t7_7 ≥ (t0_1.length : Int)))))]) (by subst hA; rfl) ?_
          clear hM hA M A
          refine tr_cond rfl (fun hc => ?_) (fun hc => ?_)
          · replace H := if_t H hc
            refine tr_keep [0, 1, 22, 23, 24] (σ' := mkSl 83 0 [(0, .val (.list (.int .u16)) .n t0_1), (1, .val (.list (.int .i64)) .n t1_2), (22, .val (.list (.int .i64)) .n t1_2), (23, .val (.int .i64) .n t23_4), (24, .val (.int .i64) .n t24_5)]) rfl ?_
            refine tr_seq ?_
            refine tr_rg hP tabOk hsp fun A hA M hM => ?_
            cbv
            refine hM _ ?_
            refine tr_ret ?_
            have hr := Option.some.inj H
            refine Exists.intro _ (And.intro hr.symm (fun hr => ?_))
            subst hr
            subst hA
            exact rfl
          · replace H := if_f H hc
            refine tr_keep [0, 1, 22, 23, 24] (σ' := mkSl 83 0 [(0, .val (.list (.int .u16)) .n t0_1), (1, .val (.list (.int .i64)) .n t1_2), (22, .val (.list (.int .i64)) .n t1_2), (23, .val (.int .i64) .n t23_4), (24, .val (.int .i64) .n t24_5)]) rfl ?_
            refine tr_skip ?_
            refine tr_rg hP tabOk hsp fun A hA M hM => ?_
            cbv
            refine hM _ ?_
            exact Exists.intro _ (And.intro (Option.some.inj H).symm (by subst hA; rfl))
        · replace H := if_f H hc
          refine tr_keep [0, 1, 22, 23, 24] (σ' := mkSl 83 0 [(0, .val (.list (.int .u16)) .n t0_1), (1, .val (.list (.int .i64)) .n t1_2), (22, .val (.list (.int .i64)) .n t1_2), (23, .val (.int .i64) .n t23_4), (24, .val (.int .i64) .n t24_5)]) rfl ?_
          refine tr_exit ?_
          exact And.intro rfl (Exists.intro _ (And.intro (Option.some.inj H).symm (by rfl)))
theorem lat_Rises_sp : ∃ (pg : PT.denL [.list (.int .u16), .list (.int .i64)] → Prop) (fg : PT.denL [.list (.int .u16), .list (.int .i64)] → PT.denL [.int .i64]), SpecRuns Try.prog 16 ⟨[.list (.int .u16), .list (.int .i64)], [.v, .v], [.int .i64], [.n], pg, fg⟩ ∧ (∀ {a1 : List Int} {a2 : List Int} {y : Int}, lat_Rises a1 a2 = some y → pg (a1, a2, ()) ∧ y = (fg (a1, a2, ())).1) ∧ (∀ {a1 : List Int} {a2 : List Int}, (lat_Rises a1 a2).isSome = true → pg (a1, a2, ())) ∧ ∀ {a1 : List Int} {a2 : List Int}, (lat_Rises a1 a2).getD (0 : Int) = (fg (a1, a2, ())).1 := by
  obtain ⟨pg, fg, h, hc, hi, hd⟩ := spec_hide lat_Rises_runs
  refine ⟨pg, fg, h, ?_, ?_, ?_⟩
  · intro a1 a2 y e
    obtain ⟨h1, h2⟩ := hc (a1, a2, ()) (y, ()) (congrArg (Option.map fun r => (r, ())) e)
    exact ⟨h1, by first | (rw [h2]; done) | (rw [h2]; rfl)⟩
  · intro a1 a2
    intro e
    exact hi (a1, a2, ()) (map_isSome e)
  · intro a1 a2
    rw [hd (a1, a2, ())]
    cases lat_Rises a1 a2 <;> rfl
end Go.Proofs.Ytaachifkgcdeoaa.Lt
