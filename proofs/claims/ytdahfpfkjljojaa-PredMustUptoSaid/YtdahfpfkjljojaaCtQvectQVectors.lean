/- Functions of the program as functions that may fail, and that the code computes them (printed). Each theorem bears its conditions itself. -/
import Derived.Test.YtdahfpfkjljojaaCtDefs
import Derived.Test.YtdahfpfkjljojaaCtTab
import Derived.Test.YtdahfpfkjljojaaCtQstampQCheck
import Derived.Test.YtdahfpfkjljojaaCtQvectQMax
open Go Go.Proofs.Ytdahfpfkjljojaa.Sy Go.Proofs
set_option maxHeartbeats 4000000
set_option maxRecDepth 100000
set_option cbv.maxSteps 10000000
set_option linter.unusedVariables false
set_option linter.unusedSimpArgs false
namespace Go.Proofs.Ytdahfpfkjljojaa.Ct
theorem vect_Vectors_runs : SpecRuns Try.prog 43 (oSpec [.list (.st [.int .i64, .int .i64, .int .i64])] [.v] [.list (.arr 6 (.int .i64)), .int .i64] [.l .n, .n] fun x => (vect_Vectors x.1).map fun r => (r.1, r.2, ())) := by
  obtain ⟨pg14, fg14, hs14, hc14, hi14, hd14⟩ := stamp_Check_sp
  obtain ⟨pg17, fg17, hs17, hc17, hi17, hd17⟩ := vect_Max_sp
  have hsp : SpecsOk Try.prog [(14, ⟨[.list (.st [.int .i64, .int .i64, .int .i64])], [.v], [.int .i64], [.n], pg14, fg14⟩), (17, ⟨[.arr 6 (.int .i64), .arr 6 (.int .i64)], [.v, .v], [.arr 6 (.int .i64)], [.n], pg17, fg17⟩)] := (specsOk_cons Try.func14 (by kernel_rfl) (by kernel_rfl) hs14 (specsOk_cons Try.func17 (by kernel_rfl) (by kernel_rfl) hs17 specsOk_nil))
  refine runs_of_o tabOk Try.func43 rfl (Nat.le_of_ble_eq_true rfl) rfl ?_
  rintro E ⟨(h_1 : List ((Int × Int × Int × Unit))), ⟨⟩⟩ y hP H hw
  obtain ⟨z, H1, rfl⟩ := map_out H
  replace H : vect_Vectors h_1 = some z := H1
  clear hw H1
  unfold vect_Vectors at H
  refine tr_keep [0] (σ' := mkSl 64 0 [(0, .val (.list (.st [.int .i64, .int .i64, .int .i64])) .n h_1)]) rfl ?_
  refine tr_seq ?_
  refine tr_rg hP tabOk hsp fun A hA M hM => ?_
  cbv
  refine hM _ ?_
  refine tr_seq ?_
  refine tr_seq ?_
  refine tr_keep [0, 2] (σ' := mkSl 64 0 [(0, .val (.list (.st [.int .i64, .int .i64, .int .i64])) .n h_1), (2, .val (.list (.arr 6 (.int .i64))) (.l .n) ([] : List (List Int)))]) (by subst hA; rfl) ?_
  clear hM hA M A
  refine tr_rg hP tabOk hsp fun A hA M hM => ?_
  cbv
  obtain ⟨r_2, hr1, H⟩ := bind_out H
  obtain ⟨pq1, eq1⟩ := hc14 hr1
  refine ⟨by subst hA; subst eq1; exact pq1, hM _ ?_⟩
  refine tr_seq ?_
  refine tr_keep [0, 2, 4] (σ' := mkSl 64 0 [(0, .val (.list (.st [.int .i64, .int .i64, .int .i64])) .n h_1), (2, .val (.list (.arr 6 (.int .i64))) (.l .n) ([] : List (List Int))), (4, .val (.int .i64) .n r_2)]) (by subst hA; subst eq1; rfl) ?_
  clear pq1 eq1 hr1 hM hA M A
  refine tr_rg hP tabOk hsp fun A hA M hM => ?_
  cbv
  refine hM _ ?_
  refine tr_keep [0, 2, 4, 14] (σ' := mkSl 64 0 [(0, .val (.list (.st [.int .i64, .int .i64, .int .i64])) .n h_1), (2, .val (.list (.arr 6 (.int .i64))) (.l .n) ([] : List (List Int))), (4, .val (.int .i64) .n r_2), (14, .val (.bool) .n (r_2 != (0 : Int)))]) (by subst hA; rfl) ?_
  clear hM hA M A
  refine tr_cond rfl (fun hc => ?_) (fun hc => ?_)
  · replace H := if_t H hc
    refine tr_keep [0, 2, 4] (σ' := mkSl 64 0 [(0, .val (.list (.st [.int .i64, .int .i64, .int .i64])) .n h_1), (2, .val (.list (.arr 6 (.int .i64))) (.l .n) ([] : List (List Int))), (4, .val (.int .i64) .n r_2)]) rfl ?_
    refine tr_seq ?_
    refine tr_rg hP tabOk hsp fun A hA M hM => ?_
    cbv
    refine hM _ ?_
    refine tr_ret ?_
    have hr := Option.some.inj H
    subst hr
    subst hA
    exact rfl
  · replace H := if_f H hc
    refine tr_keep [0, 2, 4] (σ' := mkSl 64 0 [(0, .val (.list (.st [.int .i64, .int .i64, .int .i64])) .n h_1), (2, .val (.list (.arr 6 (.int .i64))) (.l .n) ([] : List (List Int))), (4, .val (.int .i64) .n r_2)]) rfl ?_
    refine tr_skip ?_
    refine tr_seq ?_
    refine tr_rg hP tabOk hsp fun A hA M hM => ?_
    cbv
    refine hM _ ?_
    refine tr_seq ?_
    refine tr_keepL [0, 2, 5] (fun clock_3 : List (List Int) => mkSl 64 0 [(0, .val (.list (.st [.int .i64, .int .i64, .int .i64])) .n h_1), (2, .val (.list (.arr 6 (.int .i64))) (.l .n) ([] : List (List Int))), (5, .val (.box (.arr 6 (.arr 6 (.int .i64)))) (.b .n) clock_3)]) H (by subst hA; rfl) (fun clock_3 H => ?_)
    clear hM hA M A
    refine tr_rg hP tabOk hsp fun A hA M hM => ?_
    cbv
    refine hM _ ?_
    refine tr_seq ?_
    refine tr_keepL [0, 2, 5, 6] (fun sent_4 : List (List Int) => mkSl 64 0 [(0, .val (.list (.st [.int .i64, .int .i64, .int .i64])) .n h_1), (2, .val (.list (.arr 6 (.int .i64))) (.l .n) ([] : List (List Int))), (5, .val (.box (.arr 6 (.arr 6 (.int .i64)))) (.b .n) clock_3), (6, .val (.box (.arr 30 (.arr 6 (.int .i64)))) (.b .n) sent_4)]) H (by subst hA; rfl) (fun sent_4 H => ?_)
    clear hM hA M A
    refine tr_rg hP tabOk hsp fun A hA M hM => ?_
    cbv
    refine hM _ ?_
    refine tr_seq ?_
    refine tr_seq ?_
    refine tr_keep [0, 2, 5, 6, 7] (σ' := mkSl 64 0 [(0, .val (.list (.st [.int .i64, .int .i64, .int .i64])) .n h_1), (2, .val (.list (.arr 6 (.int .i64))) (.l .n) ([] : List (List Int))), (5, .val (.box (.arr 6 (.arr 6 (.int .i64)))) (.b .n) clock_3), (6, .val (.box (.arr 30 (.arr 6 (.int .i64)))) (.b .n) sent_4), (7, .val (.list (.arr 6 (.int .i64))) (.l .n) ([] : List (List Int)))]) (by subst hA; rfl) ?_
    clear hM hA M A
    refine tr_rg hP tabOk hsp fun A hA M hM => ?_
    cbv
    refine hM _ ?_
    refine tr_block ?_
    refine tr_keepL [2, 5, 6, 7, 16, 17, 18] (fun t17_5 : Int => mkSl 64 0 [(2, .val (.list (.arr 6 (.int .i64))) (.l .n) ([] : List (List Int))), (5, .val (.box (.arr 6 (.arr 6 (.int .i64)))) (.b .n) clock_3), (6, .val (.box (.arr 30 (.arr 6 (.int .i64)))) (.b .n) sent_4), (7, .val (.list (.arr 6 (.int .i64))) (.l .n) ([] : List (List Int))), (16, .val (.list (.st [.int .i64, .int .i64, .int .i64])) .n h_1), (17, .val (.int .i64) .n t17_5), (18, .val (.int .i64) .n (0 : Int))]) H (by subst hA; rfl) (fun t17_5 H => ?_)
    clear hM hA M A
    obtain ⟨q_11, hq, H⟩ := bind_out H
    refine tr_loopB 0 (fun x : List (List Int) × List (List Int) × List (List Int) × Int => vect_Vectors_L1 h_1 t17_5 x.1 x.2.1 x.2.2.1 x.2.2.2) (fun x : List (List Int) × List (List Int) × List (List Int) × Int => mkSl 64 0 [(2, .val (.list (.arr 6 (.int .i64))) (.l .n) ([] : List (List Int))), (5, .val (.box (.arr 6 (.arr 6 (.int .i64)))) (.b .n) x.1), (6, .val (.box (.arr 30 (.arr 6 (.int .i64)))) (.b .n) x.2.1), (7, .val (.list (.arr 6 (.int .i64))) (.l .n) x.2.2.1), (16, .val (.list (.st [.int .i64, .int .i64, .int .i64])) .n h_1), (17, .val (.int .i64) .n t17_5), (18, .val (.int .i64) .n x.2.2.2)]) [2, 5, 6, 7, 16, 17, 18] (fun q_11 : List (List Int) => mkSl 64 0 [(2, .val (.list (.arr 6 (.int .i64))) (.l .n) ([] : List (List Int))), (7, .val (.list (.arr 6 (.int .i64))) (.l .n) q_11)]) [2, 7] hq rfl (fun σ' h => ?_) (fun x r1 H => ?_)
    · refine tr_keep [2, 7] h ?_
      refine tr_seq ?_
      refine tr_rg hP tabOk hsp fun A hA M hM => ?_
      cbv
      refine hM _ ?_
      refine tr_ret ?_
      have hr := Option.some.inj H
      subst hr
      subst hA
      exact rfl
    · obtain ⟨clock_6, sent_7, out_8, t18_9⟩ := x
      replace H : vect_Vectors_L1 h_1 t17_5 clock_6 sent_7 out_8 t18_9 = some r1 := H
      unfold vect_Vectors_L1 at H
      refine tr_seq ?_
      refine tr_rg hP tabOk hsp fun A hA M hM => ?_
      cbv
      refine hM _ ?_
      refine tr_seq ?_
      refine tr_keep [2, 5, 6, 7, 16, 17, 18, 19] (σ' := mkSl 64 0 [(2, .val (.list (.arr 6 (.int .i64))) (.l .n) ([] : List (List Int))), (5, .val (.box (.arr 6 (.arr 6 (.int .i64)))) (.b .n) clock_6), (6, .val (.box (.arr 30 (.arr 6 (.int .i64)))) (.b .n) sent_7), (7, .val (.list (.arr 6 (.int .i64))) (.l .n) out_8), (16, .val (.list (.st [.int .i64, .int .i64, .int .i64])) .n h_1), (17, .val (.int .i64) .n t17_5), (18, .val (.int .i64) .n t18_9), (19, .val (.bool) .n (decide (t18_9 < t17_5)))]) (by subst hA; rfl) ?_
      clear hM hA M A
      refine tr_cond rfl (fun hc => ?_) (fun hc => ?_)
      · replace H := if_t H hc
        refine tr_keep [2, 5, 6, 7, 16, 17, 18] (σ' := mkSl 64 0 [(2, .val (.list (.arr 6 (.int .i64))) (.l .n) ([] : List (List Int))), (5, .val (.box (.arr 6 (.arr 6 (.int .i64)))) (.b .n) clock_6), (6, .val (.box (.arr 30 (.arr 6 (.int .i64)))) (.b .n) sent_7), (7, .val (.list (.arr 6 (.int .i64))) (.l .n) out_8), (16, .val (.list (.st [.int .i64, .int .i64, .int .i64])) .n h_1), (17, .val (.int .i64) .n t17_5), (18, .val (.int .i64) .n t18_9)]) rfl ?_
        refine tr_skip ?_
        refine tr_seq ?_
        refine tr_block ?_
        refine tr_seq ?_
        refine tr_rg hP tabOk hsp fun A hA M hM => ?_
        cbv
        obtain ⟨ob1, H⟩ := ck_out H
        refine ⟨by subst hA; exact ob1, hM _ ?_⟩
        refine tr_seq ?_
        refine tr_keepL [2, 5, 6, 7, 9, 16, 17, 18] (fun x_12 : (Int × Int × Int × Unit) => mkSl 64 0 [(2, .val (.list (.arr 6 (.int .i64))) (.l .n) ([] : List (List Int))), (5, .val (.box (.arr 6 (.arr 6 (.int .i64)))) (.b .n) clock_6), (6, .val (.box (.arr 30 (.arr 6 (.int .i64)))) (.b .n) sent_7), (7, .val (.list (.arr 6 (.int .i64))) (.l .n) out_8), (9, .val (.box (.st [.int .i64, .int .i64, .int .i64])) (.b .n) x_12), (16, .val (.list (.st [.int .i64, .int .i64, .int .i64])) .n h_1), (17, .val (.int .i64) .n t17_5), (18, .val (.int .i64) .n t18_9)]) H (by subst hA; rfl) (fun x_12 H => ?_)
        clear ob1 hM hA M A
        refine tr_rg hP tabOk hsp fun A hA M hM => ?_
        cbv
        obtain ⟨ob1, H⟩ := ck_out H
        refine ⟨by subst hA; exact ob1, hM _ ?_⟩
        refine tr_seq ?_
        refine tr_seq ?_
        refine tr_keep [2, 5, 6, 7, 9, 10, 16, 17, 18] (σ' := mkSl 64 0 [(2, .val (.list (.arr 6 (.int .i64))) (.l .n) ([] : List (List Int))), (5, .val (.box (.arr 6 (.arr 6 (.int .i64)))) (.b .n) clock_6), (6, .val (.box (.arr 30 (.arr 6 (.int .i64)))) (.b .n) sent_7), (7, .val (.list (.arr 6 (.int .i64))) (.l .n) out_8), (9, .val (.box (.st [.int .i64, .int .i64, .int .i64])) (.b .n) x_12), (10, .ref 5 [.d, .i x_12.1]), (16, .val (.list (.st [.int .i64, .int .i64, .int .i64])) .n h_1), (17, .val (.int .i64) .n t17_5), (18, .val (.int .i64) .n t18_9)]) (by subst hA; rfl) ?_
        clear ob1 hM hA M A
        refine tr_rg hP tabOk hsp fun A hA M hM => ?_
        cbv
        refine hM _ ?_
        refine tr_keep [2, 5, 6, 7, 9, 10, 16, 17, 18, 27] (σ' := mkSl 64 0 [(2, .val (.list (.arr 6 (.int .i64))) (.l .n) ([] : List (List Int))), (5, .val (.box (.arr 6 (.arr 6 (.int .i64)))) (.b .n) clock_6), (6, .val (.box (.arr 30 (.arr 6 (.int .i64)))) (.b .n) sent_7), (7, .val (.list (.arr 6 (.int .i64))) (.l .n) out_8), (9, .val (.box (.st [.int .i64, .int .i64, .int .i64])) (.b .n) x_12), (10, .ref 5 [.d, .i x_12.1]), (16, .val (.list (.st [.int .i64, .int .i64, .int .i64])) .n h_1), (17, .val (.int .i64) .n t17_5), (18, .val (.int .i64) .n t18_9), (27, .val (.bool) .n (x_12.2.1 == (3 : Int)))]) (by subst hA; rfl) ?_
        clear hM hA M A
        refine tr_join (z := r1) (fun y : List (List Int) => vect_Vectors_J2 sent_7 out_8 t18_9 x_12 y) (fun y : List (List Int) => mkSl 64 0 [(2, .val (.list (.arr 6 (.int .i64))) (.l .n) ([] : List (List Int))), (5, .val (.box (.arr 6 (.arr 6 (.int .i64)))) (.b .n) y), (6, .val (.box (.arr 30 (.arr 6 (.int .i64)))) (.b .n) sent_7), (7, .val (.list (.arr 6 (.int .i64))) (.l .n) out_8), (9, .val (.box (.st [.int .i64, .int .i64, .int .i64])) (.b .n) x_12), (10, .ref 5 [.d, .i x_12.1]), (16, .val (.list (.st [.int .i64, .int .i64, .int .i64])) .n h_1), (17, .val (.int .i64) .n t17_5), (18, .val (.int .i64) .n t18_9)]) [2, 5, 6, 7, 9, 10, 16, 17, 18] (fun _ h => h) (fun y H => ?_) (fun hJ2 => ?_)
        · obtain ⟨clock_13, rfl⟩ : ∃ v, v = y := ⟨y, rfl⟩
          replace H : vect_Vectors_J2 sent_7 out_8 t18_9 x_12 clock_13 = some r1 := H
          unfold vect_Vectors_J2 at H
          refine tr_seq ?_
          refine tr_rg hP tabOk hsp fun A hA M hM => ?_
          cbv
          obtain ⟨ob1, H⟩ := ck_out H
          obtain ⟨ob2, H⟩ := ck_out H
          refine ⟨by subst hA; exact ob1, by subst hA; exact ob2, hM _ ?_⟩
          refine tr_seq ?_
          refine tr_seq ?_
          refine tr_keepL [2, 5, 6, 7, 9, 10, 16, 17, 18] (fun clock_14 : List (List Int) => mkSl 64 0 [(2, .val (.list (.arr 6 (.int .i64))) (.l .n) ([] : List (List Int))), (5, .val (.box (.arr 6 (.arr 6 (.int .i64)))) (.b .n) clock_14), (6, .val (.box (.arr 30 (.arr 6 (.int .i64)))) (.b .n) sent_7), (7, .val (.list (.arr 6 (.int .i64))) (.l .n) out_8), (9, .val (.box (.st [.int .i64, .int .i64, .int .i64])) (.b .n) x_12), (10, .ref 5 [.d, .i x_12.1]), (16, .val (.list (.st [.int .i64, .int .i64, .int .i64])) .n h_1), (17, .val (.int .i64) .n t17_5), (18, .val (.int .i64) .n t18_9)]) H (by subst hA; rfl) (fun clock_14 H => ?_)
          clear ob2 ob1 hM hA M A
          refine tr_rg hP tabOk hsp fun A hA M hM => ?_
          cbv
          refine hM _ ?_
          refine tr_keep [2, 5, 6, 7, 9, 10, 16, 17, 18, 49] (σ' := mkSl 64 0 [(2, .val (.list (.arr 6 (.int .i64))) (.l .n) ([] : List (List Int))), (5, .val (.box (.arr 6 (.arr 6 (.int .i64)))) (.b .n) clock_14), (6, .val (.box (.arr 30 (.arr 6 (.int .i64)))) (.b .n) sent_7), (7, .val (.list (.arr 6 (.int .i64))) (.l .n) out_8), (9, .val (.box (.st [.int .i64, .int .i64, .int .i64])) (.b .n) x_12), (10, .ref 5 [.d, .i x_12.1]), (16, .val (.list (.st [.int .i64, .int .i64, .int .i64])) .n h_1), (17, .val (.int .i64) .n t17_5), (18, .val (.int .i64) .n t18_9), (49, .val (.bool) .n (x_12.2.1 == (2 : Int)))]) (by subst hA; rfl) ?_
          clear hM hA M A
          refine tr_join (z := r1) (fun y : List (List Int) => vect_Vectors_J3 out_8 t18_9 x_12 clock_14 y) (fun y : List (List Int) => mkSl 64 0 [(2, .val (.list (.arr 6 (.int .i64))) (.l .n) ([] : List (List Int))), (5, .val (.box (.arr 6 (.arr 6 (.int .i64)))) (.b .n) clock_14), (6, .val (.box (.arr 30 (.arr 6 (.int .i64)))) (.b .n) y), (7, .val (.list (.arr 6 (.int .i64))) (.l .n) out_8), (10, .ref 5 [.d, .i x_12.1]), (16, .val (.list (.st [.int .i64, .int .i64, .int .i64])) .n h_1), (17, .val (.int .i64) .n t17_5), (18, .val (.int .i64) .n t18_9)]) [2, 5, 6, 7, 10, 16, 17, 18] (fun _ h => h) (fun y H => ?_) (fun hJ3 => ?_)
          · obtain ⟨sent_15, rfl⟩ : ∃ v, v = y := ⟨y, rfl⟩
            replace H : vect_Vectors_J3 out_8 t18_9 x_12 clock_14 sent_15 = some r1 := H
            unfold vect_Vectors_J3 at H
            refine tr_rg hP tabOk hsp fun A hA M hM => ?_
            cbv
            obtain ⟨ob1, H⟩ := ck_out H
            refine ⟨by subst hA; exact ob1, hM _ ?_⟩
            refine tr_keepL [2, 5, 6, 7, 16, 17, 18] (fun out_16 : List (List Int) => mkSl 64 0 [(2, .val (.list (.arr 6 (.int .i64))) (.l .n) ([] : List (List Int))), (5, .val (.box (.arr 6 (.arr 6 (.int .i64)))) (.b .n) clock_14), (6, .val (.box (.arr 30 (.arr 6 (.int .i64)))) (.b .n) sent_15), (7, .val (.list (.arr 6 (.int .i64))) (.l .n) out_16), (16, .val (.list (.st [.int .i64, .int .i64, .int .i64])) .n h_1), (17, .val (.int .i64) .n t17_5), (18, .val (.int .i64) .n t18_9)]) H (by subst hA; rfl) (fun out_16 H => ?_)
            clear ob1 hM hA M A
            refine tr_rg hP tabOk hsp fun A hA M hM => ?_
            cbv
            refine hM _ ?_
            exact Exists.intro _ (And.intro (Option.some.inj H).symm (by subst hA; rfl))
          · refine tr_cond rfl (fun hc => ?_) (fun hc => ?_)
            · replace H := if_t H hc
              refine tr_keep [2, 5, 6, 7, 9, 10, 16, 17, 18] (σ' := mkSl 64 0 [(2, .val (.list (.arr 6 (.int .i64))) (.l .n) ([] : List (List Int))), (5, .val (.box (.arr 6 (.arr 6 (.int .i64)))) (.b .n) clock_14), (6, .val (.box (.arr 30 (.arr 6 (.int .i64)))) (.b .n) sent_7), (7, .val (.list (.arr 6 (.int .i64))) (.l .n) out_8), (9, .val (.box (.st [.int .i64, .int .i64, .int .i64])) (.b .n) x_12), (10, .ref 5 [.d, .i x_12.1]), (16, .val (.list (.st [.int .i64, .int .i64, .int .i64])) .n h_1), (17, .val (.int .i64) .n t17_5), (18, .val (.int .i64) .n t18_9)]) rfl ?_
              refine tr_rg hP tabOk hsp fun A hA M hM => ?_
              cbv
              obtain ⟨ob1, H⟩ := ck_out H
              refine ⟨by subst hA; exact ob1, hM _ ?_⟩
              exact hJ3 (sent_7.set x_12.2.2.1.toNat (clock_14.getD x_12.1.toNat (List.replicate 6 (0 : Int)))) _ H (by subst hA; rfl)
            · replace H := if_f H hc
              refine tr_keep [2, 5, 6, 7, 9, 10, 16, 17, 18] (σ' := mkSl 64 0 [(2, .val (.list (.arr 6 (.int .i64))) (.l .n) ([] : List (List Int))), (5, .val (.box (.arr 6 (.arr 6 (.int .i64)))) (.b .n) clock_14), (6, .val (.box (.arr 30 (.arr 6 (.int .i64)))) (.b .n) sent_7), (7, .val (.list (.arr 6 (.int .i64))) (.l .n) out_8), (9, .val (.box (.st [.int .i64, .int .i64, .int .i64])) (.b .n) x_12), (10, .ref 5 [.d, .i x_12.1]), (16, .val (.list (.st [.int .i64, .int .i64, .int .i64])) .n h_1), (17, .val (.int .i64) .n t17_5), (18, .val (.int .i64) .n t18_9)]) rfl ?_
              refine tr_skip ?_
              exact hJ3 sent_7 _ H (by rfl)
        · refine tr_cond rfl (fun hc => ?_) (fun hc => ?_)
          · replace H := if_t H hc
            refine tr_keep [2, 5, 6, 7, 9, 10, 16, 17, 18] (σ' := mkSl 64 0 [(2, .val (.list (.arr 6 (.int .i64))) (.l .n) ([] : List (List Int))), (5, .val (.box (.arr 6 (.arr 6 (.int .i64)))) (.b .n) clock_6), (6, .val (.box (.arr 30 (.arr 6 (.int .i64)))) (.b .n) sent_7), (7, .val (.list (.arr 6 (.int .i64))) (.l .n) out_8), (9, .val (.box (.st [.int .i64, .int .i64, .int .i64])) (.b .n) x_12), (10, .ref 5 [.d, .i x_12.1]), (16, .val (.list (.st [.int .i64, .int .i64, .int .i64])) .n h_1), (17, .val (.int .i64) .n t17_5), (18, .val (.int .i64) .n t18_9)]) rfl ?_
            refine tr_rg hP tabOk hsp fun A hA M hM => ?_
            cbv
            obtain ⟨ob1, H⟩ := ck_out H
            obtain ⟨r_17, hr2, H⟩ := bind_out H
            obtain ⟨pq2, eq2⟩ := hc17 hr2
            refine ⟨by subst hA; exact ob1, by subst hA; subst eq2; exact pq2, hM _ ?_⟩
            exact hJ2 (clock_6.set x_12.1.toNat r_17) _ H (by subst hA; subst eq2; rfl)
          · replace H := if_f H hc
            refine tr_keep [2, 5, 6, 7, 9, 10, 16, 17, 18] (σ' := mkSl 64 0 [(2, .val (.list (.arr 6 (.int .i64))) (.l .n) ([] : List (List Int))), (5, .val (.box (.arr 6 (.arr 6 (.int .i64)))) (.b .n) clock_6), (6, .val (.box (.arr 30 (.arr 6 (.int .i64)))) (.b .n) sent_7), (7, .val (.list (.arr 6 (.int .i64))) (.l .n) out_8), (9, .val (.box (.st [.int .i64, .int .i64, .int .i64])) (.b .n) x_12), (10, .ref 5 [.d, .i x_12.1]), (16, .val (.list (.st [.int .i64, .int .i64, .int .i64])) .n h_1), (17, .val (.int .i64) .n t17_5), (18, .val (.int .i64) .n t18_9)]) rfl ?_
            refine tr_skip ?_
            exact hJ2 clock_6 _ H (by rfl)
      · replace H := if_f H hc
        refine tr_keep [2, 5, 6, 7, 16, 17, 18] (σ' := mkSl 64 0 [(2, .val (.list (.arr 6 (.int .i64))) (.l .n) ([] : List (List Int))), (5, .val (.box (.arr 6 (.arr 6 (.int .i64)))) (.b .n) clock_6), (6, .val (.box (.arr 30 (.arr 6 (.int .i64)))) (.b .n) sent_7), (7, .val (.list (.arr 6 (.int .i64))) (.l .n) out_8), (16, .val (.list (.st [.int .i64, .int .i64, .int .i64])) .n h_1), (17, .val (.int .i64) .n t17_5), (18, .val (.int .i64) .n t18_9)]) rfl ?_
        refine tr_exit ?_
        exact And.intro rfl (Exists.intro _ (And.intro (Option.some.inj H).symm (by rfl)))
theorem vect_Vectors_sp : ∃ (pg : PT.denL [.list (.st [.int .i64, .int .i64, .int .i64])] → Prop) (fg : PT.denL [.list (.st [.int .i64, .int .i64, .int .i64])] → PT.denL [.list (.arr 6 (.int .i64)), .int .i64]), SpecRuns Try.prog 43 ⟨[.list (.st [.int .i64, .int .i64, .int .i64])], [.v], [.list (.arr 6 (.int .i64)), .int .i64], [.l .n, .n], pg, fg⟩ ∧ (∀ {a1 : List ((Int × Int × Int × Unit))} {y : List (List Int) × Int}, vect_Vectors a1 = some y → pg (a1, ()) ∧ y = ((fg (a1, ())).1, (fg (a1, ())).2.1)) ∧ (∀ {a1 : List ((Int × Int × Int × Unit))}, (vect_Vectors a1).isSome = true → pg (a1, ())) ∧ ∀ {a1 : List ((Int × Int × Int × Unit))}, (vect_Vectors a1).getD (([] : List (List Int)), (0 : Int)) = ((fg (a1, ())).1, (fg (a1, ())).2.1) := by
  obtain ⟨pg, fg, h, hc, hi, hd⟩ := spec_hide vect_Vectors_runs
  refine ⟨pg, fg, h, ?_, ?_, ?_⟩
  · intro a1 y e
    obtain ⟨h1, h2⟩ := hc (a1, ()) (y.1, y.2, ()) (congrArg (Option.map fun r => (r.1, r.2, ())) e)
    exact ⟨h1, by first | (rw [h2]; done) | (rw [h2]; rfl)⟩
  · intro a1
    intro e
    exact hi (a1, ()) (map_isSome e)
  · intro a1
    rw [hd (a1, ())]
    cases vect_Vectors a1 <;> rfl
end Go.Proofs.Ytdahfpfkjljojaa.Ct
