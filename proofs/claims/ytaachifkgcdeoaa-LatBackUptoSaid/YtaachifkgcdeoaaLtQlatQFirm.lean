/- Functions of the program as functions that may fail, and that the code computes them (printed). Each theorem bears its conditions itself. -/
import Derived.Test.YtaachifkgcdeoaaLtDefs
import Derived.Test.YtaachifkgcdeoaaLtTab
import Derived.Test.YtaachifkgcdeoaaLtQlatQCheck
open Go Go.Proofs.Ytaachifkgcdeoaa.Sy Go.Proofs
set_option maxHeartbeats 4000000
set_option maxRecDepth 100000
set_option cbv.maxSteps 10000000
set_option linter.unusedVariables false
set_option linter.unusedSimpArgs false
namespace Go.Proofs.Ytaachifkgcdeoaa.Lt
theorem lat_Firm_runs : SpecRuns Try.prog 13 (oSpec [.list (.int .u16)] [.v] [.list (.int .u16), .int .i64] [.l .n, .n] fun x => (lat_Firm x.1).map fun r => (r.1, r.2, ())) := by
  obtain ⟨pg9, fg9, hs9, hc9, hi9, hd9⟩ := lat_Check_sp
  have hsp : SpecsOk Try.prog [(9, ⟨[.list (.int .u16)], [.v], [.int .i64], [.n], pg9, fg9⟩)] := (specsOk_cons Try.func9 (by kernel_rfl) (by kernel_rfl) hs9 specsOk_nil)
  refine runs_of_o tabOk Try.func13 rfl (Nat.le_of_ble_eq_true rfl) rfl ?_
  rintro E ⟨(l_1 : List Int), ⟨⟩⟩ y hP H hw
  obtain ⟨z, H1, rfl⟩ := map_out H
  replace H : lat_Firm l_1 = some z := H1
  clear hw H1
  unfold lat_Firm at H
  refine tr_keep [0] (σ' := mkSl 52 0 [(0, .val (.list (.int .u16)) .n l_1)]) rfl ?_
  refine tr_seq ?_
  refine tr_rg hP tabOk hsp fun A hA M hM => ?_
  cbv
  refine hM _ ?_
  refine tr_seq ?_
  refine tr_seq ?_
  refine tr_keep [0, 2] (σ' := mkSl 52 0 [(0, .val (.list (.int .u16)) .n l_1), (2, .val (.list (.int .u16)) (.l .n) ([] : List Int))]) (by subst hA; rfl) ?_
  clear hM hA M A
  refine tr_rg hP tabOk hsp fun A hA M hM => ?_
  cbv
  obtain ⟨r_2, hr1, H⟩ := bind_out H
  obtain ⟨pq1, eq1⟩ := hc9 hr1
  refine ⟨by subst hA; subst eq1; exact pq1, hM _ ?_⟩
  refine tr_seq ?_
  refine tr_keep [0, 2, 4] (σ' := mkSl 52 0 [(0, .val (.list (.int .u16)) .n l_1), (2, .val (.list (.int .u16)) (.l .n) ([] : List Int)), (4, .val (.int .i64) .n r_2)]) (by subst hA; subst eq1; rfl) ?_
  clear pq1 eq1 hr1 hM hA M A
  refine tr_rg hP tabOk hsp fun A hA M hM => ?_
  cbv
  refine hM _ ?_
  refine tr_keep [0, 2, 4, 14] (σ' := mkSl 52 0 [(0, .val (.list (.int .u16)) .n l_1), (2, .val (.list (.int .u16)) (.l .n) ([] : List Int)), (4, .val (.int .i64) .n r_2), (14, .val (.bool) .n (r_2 != (0 : Int)))]) (by subst hA; rfl) ?_
  clear hM hA M A
  refine tr_cond rfl (fun hc => ?_) (fun hc => ?_)
  · replace H := if_t H hc
    refine tr_keep [0, 2, 4] (σ' := mkSl 52 0 [(0, .val (.list (.int .u16)) .n l_1), (2, .val (.list (.int .u16)) (.l .n) ([] : List Int)), (4, .val (.int .i64) .n r_2)]) rfl ?_
    refine tr_seq ?_
    refine tr_rg hP tabOk hsp fun A hA M hM => ?_
    cbv
    refine hM _ ?_
    refine tr_ret ?_
    have hr := Option.some.inj H
    subst hr
    subst hA
    exact rfl
  · replace H := if_f H hc
    refine tr_keep [0, 2, 4] (σ' := mkSl 52 0 [(0, .val (.list (.int .u16)) .n l_1), (2, .val (.list (.int .u16)) (.l .n) ([] : List Int)), (4, .val (.int .i64) .n r_2)]) rfl ?_
    refine tr_skip ?_
    refine tr_seq ?_
    refine tr_rg hP tabOk hsp fun A hA M hM => ?_
    cbv
    refine hM _ ?_
    refine tr_seq ?_
    refine tr_seq ?_
    refine tr_keep [0, 2, 5] (σ' := mkSl 52 0 [(0, .val (.list (.int .u16)) .n l_1), (2, .val (.list (.int .u16)) (.l .n) ([] : List Int)), (5, .val (.list (.int .u16)) (.l .n) ([] : List Int))]) (by subst hA; rfl) ?_
    clear hM hA M A
    refine tr_rg hP tabOk hsp fun A hA M hM => ?_
    cbv
    obtain ⟨ob1, H⟩ := ck_out H
    refine ⟨by subst hA; exact ob1, hM _ ?_⟩
    refine tr_block ?_
    refine tr_keepL [0, 2, 5, 17, 18, 19] (fun t17_3 : List Int => mkSl 52 0 [(0, .val (.list (.int .u16)) .n l_1), (2, .val (.list (.int .u16)) (.l .n) ([] : List Int)), (5, .val (.list (.int .u16)) (.l .n) ([] : List Int)), (17, .val (.list (.int .u16)) .n t17_3), (18, .val (.int .i64) .n ((t17_3.length : Int))), (19, .val (.int .i64) .n (0 : Int))]) H (by subst hA; rfl) (fun t17_3 H => ?_)
    refine tr_keepL [0, 2, 5, 17, 18, 19] (fun t18_4 : Int => mkSl 52 0 [(0, .val (.list (.int .u16)) .n l_1), (2, .val (.list (.int .u16)) (.l .n) ([] : List Int)), (5, .val (.list (.int .u16)) (.l .n) ([] : List Int)), (17, .val (.list (.int .u16)) .n t17_3), (18, .val (.int .i64) .n t18_4), (19, .val (.int .i64) .n (0 : Int))]) H (by rfl) (fun t18_4 H => ?_)
    clear ob1 hM hA M A
    obtain ⟨q_8, hq, H⟩ := bind_out H
    refine tr_loopB 0 (fun x : List Int × Int => lat_Firm_L1 l_1 t17_3 t18_4 x.1 x.2) (fun x : List Int × Int => mkSl 52 0 [(0, .val (.list (.int .u16)) .n l_1), (2, .val (.list (.int .u16)) (.l .n) ([] : List Int)), (5, .val (.list (.int .u16)) (.l .n) x.1), (17, .val (.list (.int .u16)) .n t17_3), (18, .val (.int .i64) .n t18_4), (19, .val (.int .i64) .n x.2)]) [0, 2, 5, 17, 18, 19] (fun q_8 : List Int => mkSl 52 0 [(2, .val (.list (.int .u16)) (.l .n) ([] : List Int)), (5, .val (.list (.int .u16)) (.l .n) q_8)]) [2, 5] hq rfl (fun σ' h => ?_) (fun x r1 H => ?_)
    · refine tr_keep [2, 5] h ?_
      refine tr_seq ?_
      refine tr_rg hP tabOk hsp fun A hA M hM => ?_
      cbv
      refine hM _ ?_
      refine tr_ret ?_
      have hr := Option.some.inj H
      subst hr
      subst hA
      exact rfl
    · obtain ⟨out_5, t19_6⟩ := x
      replace H : lat_Firm_L1 l_1 t17_3 t18_4 out_5 t19_6 = some r1 := H
      unfold lat_Firm_L1 at H
      refine tr_seq ?_
      refine tr_rg hP tabOk hsp fun A hA M hM => ?_
      cbv
      refine hM _ ?_
      refine tr_seq ?_
      refine tr_keep [0, 2, 5, 17, 18, 19, 20] (σ' := mkSl 52 0 [(0, .val (.list (.int .u16)) .n l_1), (2, .val (.list (.int .u16)) (.l .n) ([] : List Int)), (5, .val (.list (.int .u16)) (.l .n) out_5), (17, .val (.list (.int .u16)) .n t17_3), (18, .val (.int .i64) .n t18_4), (19, .val (.int .i64) .n t19_6), (20, .val (.bool) .n (decide (t19_6 < t18_4)))]) (by subst hA; rfl) ?_
      clear hM hA M A
      refine tr_cond rfl (fun hc => ?_) (fun hc => ?_)
      · replace H := if_t H hc
        refine tr_keep [0, 2, 5, 17, 18, 19] (σ' := mkSl 52 0 [(0, .val (.list (.int .u16)) .n l_1), (2, .val (.list (.int .u16)) (.l .n) ([] : List Int)), (5, .val (.list (.int .u16)) (.l .n) out_5), (17, .val (.list (.int .u16)) .n t17_3), (18, .val (.int .i64) .n t18_4), (19, .val (.int .i64) .n t19_6)]) rfl ?_
        refine tr_skip ?_
        refine tr_seq ?_
        refine tr_block ?_
        refine tr_seq ?_
        refine tr_rg hP tabOk hsp fun A hA M hM => ?_
        cbv
        obtain ⟨ob1, H⟩ := ck_out H
        refine ⟨by subst hA; exact ob1, hM _ ?_⟩
        refine tr_seq ?_
        refine tr_keepL [0, 2, 5, 7, 17, 18, 19] (fun s_9 : Int => mkSl 52 0 [(0, .val (.list (.int .u16)) .n l_1), (2, .val (.list (.int .u16)) (.l .n) ([] : List Int)), (5, .val (.list (.int .u16)) (.l .n) out_5), (7, .val (.int .u16) .n s_9), (17, .val (.list (.int .u16)) .n t17_3), (18, .val (.int .i64) .n t18_4), (19, .val (.int .i64) .n t19_6)]) H (by subst hA; rfl) (fun s_9 H => ?_)
        clear ob1 hM hA M A
        refine tr_rg hP tabOk hsp fun A hA M hM => ?_
        cbv
        refine hM _ ?_
        refine tr_seq ?_
        refine tr_seq ?_
        refine tr_keep [0, 2, 5, 7, 8, 17, 18, 19] (σ' := mkSl 52 0 [(0, .val (.list (.int .u16)) .n l_1), (2, .val (.list (.int .u16)) (.l .n) ([] : List Int)), (5, .val (.list (.int .u16)) (.l .n) out_5), (7, .val (.int .u16) .n s_9), (8, .val (.int .u16) .n (0 : Int)), (17, .val (.list (.int .u16)) .n t17_3), (18, .val (.int .i64) .n t18_4), (19, .val (.int .i64) .n t19_6)]) (by subst hA; rfl) ?_
        clear hM hA M A
        refine tr_rg hP tabOk hsp fun A hA M hM => ?_
        cbv
        refine hM _ ?_
        refine tr_block ?_
        refine tr_keepL [0, 2, 5, 7, 8, 17, 18, 19, 23, 24, 25] (fun t24_10 : Int => mkSl 52 0 [(0, .val (.list (.int .u16)) .n l_1), (2, .val (.list (.int .u16)) (.l .n) ([] : List Int)), (5, .val (.list (.int .u16)) (.l .n) out_5), (7, .val (.int .u16) .n s_9), (8, .val (.int .u16) .n (0 : Int)), (17, .val (.list (.int .u16)) .n t17_3), (18, .val (.int .i64) .n t18_4), (19, .val (.int .i64) .n t19_6), (23, .val (.list (.int .u16)) .n l_1), (24, .val (.int .i64) .n t24_10), (25, .val (.int .i64) .n (0 : Int))]) H (by subst hA; rfl) (fun t24_10 H => ?_)
        clear hM hA M A
        obtain ⟨q_14, hq, H⟩ := bind_out H
        refine tr_loopB 2 (fun x : Int × Int => lat_Firm_L2 l_1 s_9 t24_10 x.1 x.2) (fun x : Int × Int => mkSl 52 0 [(0, .val (.list (.int .u16)) .n l_1), (2, .val (.list (.int .u16)) (.l .n) ([] : List Int)), (5, .val (.list (.int .u16)) (.l .n) out_5), (7, .val (.int .u16) .n s_9), (8, .val (.int .u16) .n x.1), (17, .val (.list (.int .u16)) .n t17_3), (18, .val (.int .i64) .n t18_4), (19, .val (.int .i64) .n t19_6), (23, .val (.list (.int .u16)) .n l_1), (24, .val (.int .i64) .n t24_10), (25, .val (.int .i64) .n x.2)]) [0, 2, 5, 7, 8, 17, 18, 19, 23, 24, 25] (fun q_14 : Int => mkSl 52 0 [(0, .val (.list (.int .u16)) .n l_1), (2, .val (.list (.int .u16)) (.l .n) ([] : List Int)), (5, .val (.list (.int .u16)) (.l .n) out_5), (7, .val (.int .u16) .n s_9), (8, .val (.int .u16) .n q_14), (17, .val (.list (.int .u16)) .n t17_3), (18, .val (.int .i64) .n t18_4), (19, .val (.int .i64) .n t19_6)]) [0, 2, 5, 7, 8, 17, 18, 19] hq rfl (fun σ' h => ?_) (fun x r2 H => ?_)
        · refine tr_keep [0, 2, 5, 7, 8, 17, 18, 19] h ?_
          refine tr_seq ?_
          refine tr_rg hP tabOk hsp fun A hA M hM => ?_
          cbv
          refine hM _ ?_
          refine tr_keep [0, 2, 5, 7, 17, 18, 19, 45] (σ' := mkSl 52 0 [(0, .val (.list (.int .u16)) .n l_1), (2, .val (.list (.int .u16)) (.l .n) ([] : List Int)), (5, .val (.list (.int .u16)) (.l .n) out_5), (7, .val (.int .u16) .n s_9), (17, .val (.list (.int .u16)) .n t17_3), (18, .val (.int .i64) .n t18_4), (19, .val (.int .i64) .n t19_6), (45, .val (.bool) .n (q_14 != s_9))]) (by subst hA; rfl) ?_
          clear hM hA M A
          refine tr_join (z := r1) (fun y : List Int => lat_Firm_J3 t19_6 y) (fun y : List Int => mkSl 52 0 [(0, .val (.list (.int .u16)) .n l_1), (2, .val (.list (.int .u16)) (.l .n) ([] : List Int)), (5, .val (.list (.int .u16)) (.l .n) y), (17, .val (.list (.int .u16)) .n t17_3), (18, .val (.int .i64) .n t18_4), (19, .val (.int .i64) .n t19_6)]) [0, 2, 5, 17, 18, 19] (fun _ h => h) (fun y H => ?_) (fun hJ3 => ?_)
          · obtain ⟨out_18, rfl⟩ : ∃ v, v = y := ⟨y, rfl⟩
            replace H : lat_Firm_J3 t19_6 out_18 = some r1 := H
            unfold lat_Firm_J3 at H
            refine tr_rg hP tabOk hsp fun A hA M hM => ?_
            cbv
            refine hM _ ?_
            exact Exists.intro _ (And.intro (Option.some.inj H).symm (by subst hA; rfl))
          · refine tr_cond rfl (fun hc => ?_) (fun hc => ?_)
            · replace H := if_t H hc
              refine tr_keep [0, 2, 5, 7, 17, 18, 19] (σ' := mkSl 52 0 [(0, .val (.list (.int .u16)) .n l_1), (2, .val (.list (.int .u16)) (.l .n) ([] : List Int)), (5, .val (.list (.int .u16)) (.l .n) out_5), (7, .val (.int .u16) .n s_9), (17, .val (.list (.int .u16)) .n t17_3), (18, .val (.int .i64) .n t18_4), (19, .val (.int .i64) .n t19_6)]) rfl ?_
              refine tr_rg hP tabOk hsp fun A hA M hM => ?_
              cbv
              obtain ⟨ob1, H⟩ := ck_out H
              refine ⟨by subst hA; exact ob1, hM _ ?_⟩
              exact hJ3 (out_5 ++ [s_9]) _ H (by subst hA; rfl)
            · replace H := if_f H hc
              refine tr_keep [0, 2, 5, 7, 17, 18, 19] (σ' := mkSl 52 0 [(0, .val (.list (.int .u16)) .n l_1), (2, .val (.list (.int .u16)) (.l .n) ([] : List Int)), (5, .val (.list (.int .u16)) (.l .n) out_5), (7, .val (.int .u16) .n s_9), (17, .val (.list (.int .u16)) .n t17_3), (18, .val (.int .i64) .n t18_4), (19, .val (.int .i64) .n t19_6)]) rfl ?_
              refine tr_skip ?_
              exact hJ3 out_5 _ H (by rfl)
        · obtain ⟨below_11, t25_12⟩ := x
          replace H : lat_Firm_L2 l_1 s_9 t24_10 below_11 t25_12 = some r2 := H
          unfold lat_Firm_L2 at H
          refine tr_seq ?_
          refine tr_rg hP tabOk hsp fun A hA M hM => ?_
          cbv
          refine hM _ ?_
          refine tr_seq ?_
          refine tr_keep [0, 2, 5, 7, 8, 17, 18, 19, 23, 24, 25, 26] (σ' := mkSl 52 0 [(0, .val (.list (.int .u16)) .n l_1), (2, .val (.list (.int .u16)) (.l .n) ([] : List Int)), (5, .val (.list (.int .u16)) (.l .n) out_5), (7, .val (.int .u16) .n s_9), (8, .val (.int .u16) .n below_11), (17, .val (.list (.int .u16)) .n t17_3), (18, .val (.int .i64) .n t18_4), (19, .val (.int .i64) .n t19_6), (23, .val (.list (.int .u16)) .n l_1), (24, .val (.int .i64) .n t24_10), (25, .val (.int .i64) .n t25_12), (26, .val (.bool) .n (decide (t25_12 < t24_10)))]) (by subst hA; rfl) ?_
          clear hM hA M A
          refine tr_cond rfl (fun hc => ?_) (fun hc => ?_)
          · replace H := if_t H hc
            refine tr_keep [0, 2, 5, 7, 8, 17, 18, 19, 23, 24, 25] (σ' := mkSl 52 0 [(0, .val (.list (.int .u16)) .n l_1), (2, .val (.list (.int .u16)) (.l .n) ([] : List Int)), (5, .val (.list (.int .u16)) (.l .n) out_5), (7, .val (.int .u16) .n s_9), (8, .val (.int .u16) .n below_11), (17, .val (.list (.int .u16)) .n t17_3), (18, .val (.int .i64) .n t18_4), (19, .val (.int .i64) .n t19_6), (23, .val (.list (.int .u16)) .n l_1), (24, .val (.int .i64) .n t24_10), (25, .val (.int .i64) .n t25_12)]) rfl ?_
            refine tr_skip ?_
            refine tr_seq ?_
            refine tr_block ?_
            refine tr_seq ?_
            refine tr_rg hP tabOk hsp fun A hA M hM => ?_
            cbv
            obtain ⟨ob1, H⟩ := ck_out H
            refine ⟨by subst hA; exact ob1, hM _ ?_⟩
            refine tr_seq ?_
            refine tr_keepL [0, 2, 5, 7, 8, 10, 17, 18, 19, 23, 24, 25] (fun t_15 : Int => mkSl 52 0 [(0, .val (.list (.int .u16)) .n l_1), (2, .val (.list (.int .u16)) (.l .n) ([] : List Int)), (5, .val (.list (.int .u16)) (.l .n) out_5), (7, .val (.int .u16) .n s_9), (8, .val (.int .u16) .n below_11), (10, .val (.int .u16) .n t_15), (17, .val (.list (.int .u16)) .n t17_3), (18, .val (.int .i64) .n t18_4), (19, .val (.int .i64) .n t19_6), (23, .val (.list (.int .u16)) .n l_1), (24, .val (.int .i64) .n t24_10), (25, .val (.int .i64) .n t25_12)]) H (by subst hA; rfl) (fun t_15 H => ?_)
            clear ob1 hM hA M A
            refine tr_rg hP tabOk hsp fun A hA M hM => ?_
            cbv
            refine hM _ ?_
            refine tr_keep [0, 2, 5, 7, 8, 10, 17, 18, 19, 23, 24, 25, 38] (σ' := mkSl 52 0 [(0, .val (.list (.int .u16)) .n l_1), (2, .val (.list (.int .u16)) (.l .n) ([] : List Int)), (5, .val (.list (.int .u16)) (.l .n) out_5), (7, .val (.int .u16) .n s_9), (8, .val (.int .u16) .n below_11), (10, .val (.int .u16) .n t_15), (17, .val (.list (.int .u16)) .n t17_3), (18, .val (.int .i64) .n t18_4), (19, .val (.int .i64) .n t19_6), (23, .val (.list (.int .u16)) .n l_1), (24, .val (.int .i64) .n t24_10), (25, .val (.int .i64) .n t25_12), (38, .val (.bool) .n ((t_15 != s_9) && ((arR .and .u16 t_15 s_9) == t_15)))]) (by subst hA; rfl) ?_
            clear hM hA M A
            refine tr_merge (fun y_17 : Int => mkSl 52 0 [(0, .val (.list (.int .u16)) .n l_1), (2, .val (.list (.int .u16)) (.l .n) ([] : List Int)), (5, .val (.list (.int .u16)) (.l .n) out_5), (7, .val (.int .u16) .n s_9), (8, .val (.int .u16) .n y_17), (17, .val (.list (.int .u16)) .n t17_3), (18, .val (.int .i64) .n t18_4), (19, .val (.int .i64) .n t19_6), (23, .val (.list (.int .u16)) .n l_1), (24, .val (.int .i64) .n t24_10), (25, .val (.int .i64) .n t25_12)]) [0, 2, 5, 7, 8, 17, 18, 19, 23, 24, 25] H rfl (fun _ h => h) (fun y_17 H => ?_) (fun hc => ?_) (fun hc => ?_)
            · refine tr_rg hP tabOk hsp fun A hA M hM => ?_
              cbv
              refine hM _ ?_
              exact Exists.intro _ (And.intro (Option.some.inj H).symm (by subst hA; rfl))
            · refine tr_keep [0, 2, 5, 7, 8, 10, 17, 18, 19, 23, 24, 25] (σ' := mkSl 52 0 [(0, .val (.list (.int .u16)) .n l_1), (2, .val (.list (.int .u16)) (.l .n) ([] : List Int)), (5, .val (.list (.int .u16)) (.l .n) out_5), (7, .val (.int .u16) .n s_9), (8, .val (.int .u16) .n below_11), (10, .val (.int .u16) .n t_15), (17, .val (.list (.int .u16)) .n t17_3), (18, .val (.int .i64) .n t18_4), (19, .val (.int .i64) .n t19_6), (23, .val (.list (.int .u16)) .n l_1), (24, .val (.int .i64) .n t24_10), (25, .val (.int .i64) .n t25_12)]) rfl ?_
              refine tr_rg hP tabOk hsp fun A hA M hM => ?_
              cbv
              refine hM _ ?_
              subst hA
              rfl
            · refine tr_keep [0, 2, 5, 7, 8, 10, 17, 18, 19, 23, 24, 25] (σ' := mkSl 52 0 [(0, .val (.list (.int .u16)) .n l_1), (2, .val (.list (.int .u16)) (.l .n) ([] : List Int)), (5, .val (.list (.int .u16)) (.l .n) out_5), (7, .val (.int .u16) .n s_9), (8, .val (.int .u16) .n below_11), (10, .val (.int .u16) .n t_15), (17, .val (.list (.int .u16)) .n t17_3), (18, .val (.int .i64) .n t18_4), (19, .val (.int .i64) .n t19_6), (23, .val (.list (.int .u16)) .n l_1), (24, .val (.int .i64) .n t24_10), (25, .val (.int .i64) .n t25_12)]) rfl ?_
              refine tr_skip ?_
              rfl
          · replace H := if_f H hc
            refine tr_keep [0, 2, 5, 7, 8, 17, 18, 19, 23, 24, 25] (σ' := mkSl 52 0 [(0, .val (.list (.int .u16)) .n l_1), (2, .val (.list (.int .u16)) (.l .n) ([] : List Int)), (5, .val (.list (.int .u16)) (.l .n) out_5), (7, .val (.int .u16) .n s_9), (8, .val (.int .u16) .n below_11), (17, .val (.list (.int .u16)) .n t17_3), (18, .val (.int .i64) .n t18_4), (19, .val (.int .i64) .n t19_6), (23, .val (.list (.int .u16)) .n l_1), (24, .val (.int .i64) .n t24_10), (25, .val (.int .i64) .n t25_12)]) rfl ?_
            refine tr_exit ?_
            exact And.intro rfl (Exists.intro _ (And.intro (Option.some.inj H).symm (by rfl)))
      · replace H := if_f H hc
        refine tr_keep [0, 2, 5, 17, 18, 19] (σ' := mkSl 52 0 [(0, .val (.list (.int .u16)) .n l_1), (2, .val (.list (.int .u16)) (.l .n) ([] : List Int)), (5, .val (.list (.int .u16)) (.l .n) out_5), (17, .val (.list (.int .u16)) .n t17_3), (18, .val (.int .i64) .n t18_4), (19, .val (.int .i64) .n t19_6)]) rfl ?_
        refine tr_exit ?_
        exact And.intro rfl (Exists.intro _ (And.intro (Option.some.inj H).symm (by rfl)))
theorem lat_Firm_sp : ∃ (pg : PT.denL [.list (.int .u16)] → Prop) (fg : PT.denL [.list (.int .u16)] → PT.denL [.list (.int .u16), .int .i64]), SpecRuns Try.prog 13 ⟨[.list (.int .u16)], [.v], [.list (.int .u16), .int .i64], [.l .n, .n], pg, fg⟩ ∧ (∀ {a1 : List Int} {y : List Int × Int}, lat_Firm a1 = some y → pg (a1, ()) ∧ y = ((fg (a1, ())).1, (fg (a1, ())).2.1)) ∧ (∀ {a1 : List Int}, (lat_Firm a1).isSome = true → pg (a1, ())) ∧ ∀ {a1 : List Int}, (lat_Firm a1).getD (([] : List Int), (0 : Int)) = ((fg (a1, ())).1, (fg (a1, ())).2.1) := by
  obtain ⟨pg, fg, h, hc, hi, hd⟩ := spec_hide lat_Firm_runs
  refine ⟨pg, fg, h, ?_, ?_, ?_⟩
  · intro a1 y e
    obtain ⟨h1, h2⟩ := hc (a1, ()) (y.1, y.2, ()) (congrArg (Option.map fun r => (r.1, r.2, ())) e)
    exact ⟨h1, by first | (rw [h2]; done) | (rw [h2]; rfl)⟩
  · intro a1
    intro e
    exact hi (a1, ()) (map_isSome e)
  · intro a1
    rw [hd (a1, ())]
    cases lat_Firm a1 <;> rfl
end Go.Proofs.Ytaachifkgcdeoaa.Lt
