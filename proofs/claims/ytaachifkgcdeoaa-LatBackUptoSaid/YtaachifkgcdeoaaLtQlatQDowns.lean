/- Functions of the program as functions that may fail, and that the code computes them (printed). Each theorem bears its conditions itself. -/
import Derived.Test.YtaachifkgcdeoaaLtDefs
import Derived.Test.YtaachifkgcdeoaaLtTab
import Derived.Test.YtaachifkgcdeoaaLtQposetQClose
open Go Go.Proofs.Ytaachifkgcdeoaa.Sy Go.Proofs
set_option maxHeartbeats 4000000
set_option maxRecDepth 100000
set_option cbv.maxSteps 10000000
set_option linter.unusedVariables false
set_option linter.unusedSimpArgs false
namespace Go.Proofs.Ytaachifkgcdeoaa.Lt
theorem lat_Downs_runs : SpecRuns Try.prog 17 (oSpec [.st [.int .i64, .list (.st [.int .i64, .int .i64])]] [.v] [.list (.int .u16), .int .i64] [.l .n, .n] fun x => (lat_Downs x.1).map fun r => (r.1, r.2, ())) := by
  obtain ⟨pg20, fg20, hs20, hc20, hi20, hd20⟩ := poset_Close_sp
  have hsp : SpecsOk Try.prog [(20, ⟨[.st [.int .i64, .list (.st [.int .i64, .int .i64])]], [.v], [.list (.st [.int .i64, .int .i64]), .int .i64], [.l .n, .n], pg20, fg20⟩)] := (specsOk_cons Try.func20 (by kernel_rfl) (by kernel_rfl) hs20 specsOk_nil)
  refine runs_of_o tabOk Try.func17 rfl (Nat.le_of_ble_eq_true rfl) rfl ?_
  rintro E ⟨(t0_1 : (Int × List ((Int × Int × Unit)) × Unit)), ⟨⟩⟩ y hP H hw
  obtain ⟨z, H1, rfl⟩ := map_out H
  replace H : lat_Downs t0_1 = some z := H1
  clear hw H1
  unfold lat_Downs at H
  refine tr_keep [0] (σ' := mkSl 80 0 [(0, .val (.st [.int .i64, .list (.st [.int .i64, .int .i64])]) .n t0_1)]) rfl ?_
  refine tr_seq ?_
  refine tr_rg hP tabOk hsp fun A hA M hM => ?_
  cbv
  refine hM _ ?_
  refine tr_seq ?_
  refine tr_keep [1, 2] (σ' := mkSl 80 0 [(1, .val (.box (.st [.int .i64, .list (.st [.int .i64, .int .i64])])) (.b .n) t0_1), (2, .val (.list (.int .u16)) (.l .n) ([] : List Int))]) (by subst hA; rfl) ?_
  clear hM hA M A
  refine tr_rg hP tabOk hsp fun A hA M hM => ?_
  cbv
  obtain ⟨r_2, hr1, H⟩ := bind_out H
  obtain ⟨pq1, eq1⟩ := hc20 hr1
  refine ⟨by subst hA; subst eq1; exact pq1, hM _ ?_⟩
  refine tr_seq ?_
  refine tr_seq ?_
  refine tr_keep [1, 2, 4, 5] (σ' := mkSl 80 0 [(1, .val (.box (.st [.int .i64, .list (.st [.int .i64, .int .i64])])) (.b .n) t0_1), (2, .val (.list (.int .u16)) (.l .n) ([] : List Int)), (4, .val (.list (.st [.int .i64, .int .i64])) (.l .n) r_2.1), (5, .val (.int .i64) .n r_2.2)]) (by subst hA; subst eq1; rfl) ?_
  clear pq1 eq1 hr1 hM hA M A
  refine tr_rg hP tabOk hsp fun A hA M hM => ?_
  cbv
  refine hM _ ?_
  refine tr_keep [1, 2, 4, 5, 19] (σ' := mkSl 80 0 [(1, .val (.box (.st [.int .i64, .list (.st [.int .i64, .int .i64])])) (.b .n) t0_1), (2, .val (.list (.int .u16)) (.l .n) ([] : List Int)), (4, .val (.list (.st [.int .i64, .int .i64])) (.l .n) r_2.1), (5, .val (.int .i64) .n r_2.2), (19, .val (.bool) .n (r_2.2 != (0 : Int)))]) (by subst hA; rfl) ?_
  clear hM hA M A
  refine tr_cond rfl (fun hc => ?_) (fun hc => ?_)
  · replace H := if_t H hc
    refine tr_keep [1, 2, 4, 5] (σ' := mkSl 80 0 [(1, .val (.box (.st [.int .i64, .list (.st [.int .i64, .int .i64])])) (.b .n) t0_1), (2, .val (.list (.int .u16)) (.l .n) ([] : List Int)), (4, .val (.list (.st [.int .i64, .int .i64])) (.l .n) r_2.1), (5, .val (.int .i64) .n r_2.2)]) rfl ?_
    refine tr_seq ?_
    refine tr_rg hP tabOk hsp fun A hA M hM => ?_
    cbv
    refine hM _ ?_
    refine tr_ret ?_
    have hr := Option.some.inj H
    subst hr
    subst hA
    exact rfl
  · replace H := if_f H hc
    refine tr_keep [1, 2, 4, 5] (σ' := mkSl 80 0 [(1, .val (.box (.st [.int .i64, .list (.st [.int .i64, .int .i64])])) (.b .n) t0_1), (2, .val (.list (.int .u16)) (.l .n) ([] : List Int)), (4, .val (.list (.st [.int .i64, .int .i64])) (.l .n) r_2.1), (5, .val (.int .i64) .n r_2.2)]) rfl ?_
    refine tr_skip ?_
    refine tr_seq ?_
    refine tr_seq ?_
    refine tr_rg hP tabOk hsp fun A hA M hM => ?_
    cbv
    refine hM _ ?_
    refine tr_keep [1, 2, 4, 23] (σ' := mkSl 80 0 [(1, .val (.box (.st [.int .i64, .list (.st [.int .i64, .int .i64])])) (.b .n) t0_1), (2, .val (.list (.int .u16)) (.l .n) ([] : List Int)), (4, .val (.list (.st [.int .i64, .int .i64])) (.l .n) r_2.1), (23, .val (.bool) .n (decide (t0_1.1 > (12 : Int))))]) (by subst hA; rfl) ?_
    clear hM hA M A
    refine tr_cond rfl (fun hc => ?_) (fun hc => ?_)
    · replace H := if_t H hc
      refine tr_keep [1, 2, 4] (σ' := mkSl 80 0 [(1, .val (.box (.st [.int .i64, .list (.st [.int .i64, .int .i64])])) (.b .n) t0_1), (2, .val (.list (.int .u16)) (.l .n) ([] : List Int)), (4, .val (.list (.st [.int .i64, .int .i64])) (.l .n) r_2.1)]) rfl ?_
      refine tr_seq ?_
      refine tr_rg hP tabOk hsp fun A hA M hM => ?_
      cbv
      refine hM _ ?_
      refine tr_ret ?_
      have hr := Option.some.inj H
      subst hr
      subst hA
      exact rfl
    · replace H := if_f H hc
      refine tr_keep [1, 2, 4] (σ' := mkSl 80 0 [(1, .val (.box (.st [.int .i64, .list (.st [.int .i64, .int .i64])])) (.b .n) t0_1), (2, .val (.list (.int .u16)) (.l .n) ([] : List Int)), (4, .val (.list (.st [.int .i64, .int .i64])) (.l .n) r_2.1)]) rfl ?_
      refine tr_skip ?_
      refine tr_seq ?_
      refine tr_rg hP tabOk hsp fun A hA M hM => ?_
      cbv
      refine hM _ ?_
      refine tr_seq ?_
      refine tr_seq ?_
      refine tr_keepL [1, 2, 4, 6] (fun t6_3 : List Int => mkSl 80 0 [(1, .val (.box (.st [.int .i64, .list (.st [.int .i64, .int .i64])])) (.b .n) t0_1), (2, .val (.list (.int .u16)) (.l .n) ([] : List Int)), (4, .val (.list (.st [.int .i64, .int .i64])) (.l .n) r_2.1), (6, .val (.box (.arr 12 (.int .u16))) (.b .n) t6_3)]) H (by subst hA; rfl) (fun t6_3 H => ?_)
      clear hM hA M A
      refine tr_rg hP tabOk hsp fun A hA M hM => ?_
      cbv
      refine hM _ ?_
      refine tr_block ?_
      refine tr_keepL [1, 2, 4, 6, 24, 25, 26] (fun t25_4 : Int => mkSl 80 0 [(1, .val (.box (.st [.int .i64, .list (.st [.int .i64, .int .i64])])) (.b .n) t0_1), (2, .val (.list (.int .u16)) (.l .n) ([] : List Int)), (4, .val (.list (.st [.int .i64, .int .i64])) (.l .n) r_2.1), (6, .val (.box (.arr 12 (.int .u16))) (.b .n) t6_3), (24, .bor 4 []), (25, .val (.int .i64) .n t25_4), (26, .val (.int .i64) .n (0 : Int))]) H (by subst hA; rfl) (fun t25_4 H => ?_)
      clear hM hA M A
      obtain ⟨q_8, hq, H⟩ := bind_out H
      refine tr_loopB 0 (fun x : List Int × Int => lat_Downs_L1 r_2 t25_4 x.1 x.2) (fun x : List Int × Int => mkSl 80 0 [(1, .val (.box (.st [.int .i64, .list (.st [.int .i64, .int .i64])])) (.b .n) t0_1), (2, .val (.list (.int .u16)) (.l .n) ([] : List Int)), (4, .val (.list (.st [.int .i64, .int .i64])) (.l .n) r_2.1), (6, .val (.box (.arr 12 (.int .u16))) (.b .n) x.1), (24, .bor 4 []), (25, .val (.int .i64) .n t25_4), (26, .val (.int .i64) .n x.2)]) [1, 2, 4, 6, 24, 25, 26] (fun q_8 : List Int => mkSl 80 0 [(1, .val (.box (.st [.int .i64, .list (.st [.int .i64, .int .i64])])) (.b .n) t0_1), (2, .val (.list (.int .u16)) (.l .n) ([] : List Int)), (6, .val (.box (.arr 12 (.int .u16))) (.b .n) q_8)]) [1, 2, 6] hq rfl (fun σ' h => ?_) (fun x r1 H => ?_)
      · refine tr_keep [1, 2, 6] h ?_
        refine tr_seq ?_
        refine tr_rg hP tabOk hsp fun A hA M hM => ?_
        cbv
        refine hM _ ?_
        refine tr_seq ?_
        refine tr_seq ?_
        refine tr_keep [1, 2, 6, 9] (σ' := mkSl 80 0 [(1, .val (.box (.st [.int .i64, .list (.st [.int .i64, .int .i64])])) (.b .n) t0_1), (2, .val (.list (.int .u16)) (.l .n) ([] : List Int)), (6, .val (.box (.arr 12 (.int .u16))) (.b .n) q_8), (9, .val (.list (.int .u16)) (.l .n) ([] : List Int))]) (by subst hA; rfl) ?_
        clear hM hA M A
        refine tr_rg hP tabOk hsp fun A hA M hM => ?_
        cbv
        obtain ⟨ob1, H⟩ := ck_out H
        refine ⟨by subst hA; exact ob1, hM _ ?_⟩
        refine tr_block ?_
        refine tr_keepL [1, 2, 6, 9, 42, 43] (fun t42_11 : Int => mkSl 80 0 [(1, .val (.box (.st [.int .i64, .list (.st [.int .i64, .int .i64])])) (.b .n) t0_1), (2, .val (.list (.int .u16)) (.l .n) ([] : List Int)), (6, .val (.box (.arr 12 (.int .u16))) (.b .n) q_8), (9, .val (.list (.int .u16)) (.l .n) ([] : List Int)), (42, .val (.int .i64) .n t42_11), (43, .val (.int .i64) .n (0 : Int))]) H (by subst hA; rfl) (fun t42_11 H => ?_)
        clear ob1 hM hA M A
        obtain ⟨q_15, hq, H⟩ := bind_out H
        refine tr_loopB 2 (fun x : List Int × Int => lat_Downs_L2 t0_1 q_8 t42_11 x.1 x.2) (fun x : List Int × Int => mkSl 80 0 [(1, .val (.box (.st [.int .i64, .list (.st [.int .i64, .int .i64])])) (.b .n) t0_1), (2, .val (.list (.int .u16)) (.l .n) ([] : List Int)), (6, .val (.box (.arr 12 (.int .u16))) (.b .n) q_8), (9, .val (.list (.int .u16)) (.l .n) x.1), (42, .val (.int .i64) .n t42_11), (43, .val (.int .i64) .n x.2)]) [1, 2, 6, 9, 42, 43] (fun q_15 : List Int => mkSl 80 0 [(2, .val (.list (.int .u16)) (.l .n) ([] : List Int)), (9, .val (.list (.int .u16)) (.l .n) q_15)]) [2, 9] hq rfl (fun σ' h => ?_) (fun x r2 H => ?_)
        · refine tr_keep [2, 9] h ?_
          refine tr_seq ?_
          refine tr_rg hP tabOk hsp fun A hA M hM => ?_
          cbv
          refine hM _ ?_
          refine tr_ret ?_
          have hr := Option.some.inj H
          subst hr
          subst hA
          exact rfl
        · obtain ⟨t9_12, t43_13⟩ := x
          replace H : lat_Downs_L2 t0_1 q_8 t42_11 t9_12 t43_13 = some r2 := H
          unfold lat_Downs_L2 at H
          refine tr_seq ?_
          refine tr_rg hP tabOk hsp fun A hA M hM => ?_
          cbv
          refine hM _ ?_
          refine tr_seq ?_
          refine tr_keep [1, 2, 6, 9, 42, 43, 44] (σ' := mkSl 80 0 [(1, .val (.box (.st [.int .i64, .list (.st [.int .i64, .int .i64])])) (.b .n) t0_1), (2, .val (.list (.int .u16)) (.l .n) ([] : List Int)), (6, .val (.box (.arr 12 (.int .u16))) (.b .n) q_8), (9, .val (.list (.int .u16)) (.l .n) t9_12), (42, .val (.int .i64) .n t42_11), (43, .val (.int .i64) .n t43_13), (44, .val (.bool) .n (decide (t43_13 < t42_11)))]) (by subst hA; rfl) ?_
          clear hM hA M A
          refine tr_cond rfl (fun hc => ?_) (fun hc => ?_)
          · replace H := if_t H hc
            refine tr_keep [1, 2, 6, 9, 42, 43] (σ' := mkSl 80 0 [(1, .val (.box (.st [.int .i64, .list (.st [.int .i64, .int .i64])])) (.b .n) t0_1), (2, .val (.list (.int .u16)) (.l .n) ([] : List Int)), (6, .val (.box (.arr 12 (.int .u16))) (.b .n) q_8), (9, .val (.list (.int .u16)) (.l .n) t9_12), (42, .val (.int .i64) .n t42_11), (43, .val (.int .i64) .n t43_13)]) rfl ?_
            refine tr_skip ?_
            refine tr_seq ?_
            refine tr_block ?_
            refine tr_seq ?_
            refine tr_rg hP tabOk hsp fun A hA M hM => ?_
            cbv
            refine hM _ ?_
            refine tr_seq ?_
            refine tr_keep [1, 2, 6, 9, 10, 42, 43] (σ' := mkSl 80 0 [(1, .val (.box (.st [.int .i64, .list (.st [.int .i64, .int .i64])])) (.b .n) t0_1), (2, .val (.list (.int .u16)) (.l .n) ([] : List Int)), (6, .val (.box (.arr 12 (.int .u16))) (.b .n) q_8), (9, .val (.list (.int .u16)) (.l .n) t9_12), (10, .val (.int .i64) .n t43_13), (42, .val (.int .i64) .n t42_11), (43, .val (.int .i64) .n t43_13)]) (by subst hA; rfl) ?_
            clear hM hA M A
            refine tr_rg hP tabOk hsp fun A hA M hM => ?_
            cbv
            refine hM _ ?_
            refine tr_seq ?_
            refine tr_seq ?_
            refine tr_keep [1, 2, 6, 9, 10, 11, 42, 43] (σ' := mkSl 80 0 [(1, .val (.box (.st [.int .i64, .list (.st [.int .i64, .int .i64])])) (.b .n) t0_1), (2, .val (.list (.int .u16)) (.l .n) ([] : List Int)), (6, .val (.box (.arr 12 (.int .u16))) (.b .n) q_8), (9, .val (.list (.int .u16)) (.l .n) t9_12), (10, .val (.int .i64) .n t43_13), (11, .val (.bool) .n true), (42, .val (.int .i64) .n t42_11), (43, .val (.int .i64) .n t43_13)]) (by subst hA; rfl) ?_
            clear hM hA M A
            refine tr_rg hP tabOk hsp fun A hA M hM => ?_
            cbv
            refine hM _ ?_
            refine tr_block ?_
            refine tr_keep [1, 2, 6, 9, 10, 11, 42, 43, 47, 48] (σ' := mkSl 80 0 [(1, .val (.box (.st [.int .i64, .list (.st [.int .i64, .int .i64])])) (.b .n) t0_1), (2, .val (.list (.int .u16)) (.l .n) ([] : List Int)), (6, .val (.box (.arr 12 (.int .u16))) (.b .n) q_8), (9, .val (.list (.int .u16)) (.l .n) t9_12), (10, .val (.int .i64) .n t43_13), (11, .val (.bool) .n true), (42, .val (.int .i64) .n t42_11), (43, .val (.int .i64) .n t43_13), (47, .val (.int .i64) .n t0_1.1), (48, .val (.int .i64) .n (0 : Int))]) (by subst hA; rfl) ?_
            clear hM hA M A
            obtain ⟨q_19, hq, H⟩ := bind_out H
            refine tr_loopB 4 (fun x : Bool × Int => lat_Downs_L3 t0_1 q_8 t43_13 x.1 x.2) (fun x : Bool × Int => mkSl 80 0 [(1, .val (.box (.st [.int .i64, .list (.st [.int .i64, .int .i64])])) (.b .n) t0_1), (2, .val (.list (.int .u16)) (.l .n) ([] : List Int)), (6, .val (.box (.arr 12 (.int .u16))) (.b .n) q_8), (9, .val (.list (.int .u16)) (.l .n) t9_12), (10, .val (.int .i64) .n t43_13), (11, .val (.bool) .n x.1), (42, .val (.int .i64) .n t42_11), (43, .val (.int .i64) .n t43_13), (47, .val (.int .i64) .n t0_1.1), (48, .val (.int .i64) .n x.2)]) [1, 2, 6, 9, 10, 11, 42, 43, 47, 48] (fun q_19 : Bool => mkSl 80 0 [(1, .val (.box (.st [.int .i64, .list (.st [.int .i64, .int .i64])])) (.b .n) t0_1), (2, .val (.list (.int .u16)) (.l .n) ([] : List Int)), (6, .val (.box (.arr 12 (.int .u16))) (.b .n) q_8), (9, .val (.list (.int .u16)) (.l .n) t9_12), (10, .val (.int .i64) .n t43_13), (11, .val (.bool) .n q_19), (42, .val (.int .i64) .n t42_11), (43, .val (.int .i64) .n t43_13)]) [1, 2, 6, 9, 10, 11, 42, 43] hq rfl (fun σ' h => ?_) (fun x r3 H => ?_)
            · refine tr_keep [1, 2, 6, 9, 10, 11, 42, 43] h ?_
              refine tr_seq ?_
              refine tr_rg hP tabOk hsp fun A hA M hM => ?_
              cbv
              refine hM _ ?_
              refine tr_keep [1, 2, 6, 9, 10, 42, 43, 72] (σ' := mkSl 80 0 [(1, .val (.box (.st [.int .i64, .list (.st [.int .i64, .int .i64])])) (.b .n) t0_1), (2, .val (.list (.int .u16)) (.l .n) ([] : List Int)), (6, .val (.box (.arr 12 (.int .u16))) (.b .n) q_8), (9, .val (.list (.int .u16)) (.l .n) t9_12), (10, .val (.int .i64) .n t43_13), (42, .val (.int .i64) .n t42_11), (43, .val (.int .i64) .n t43_13), (72, .val (.bool) .n q_19)]) (by subst hA; rfl) ?_
              clear hM hA M A
              refine tr_join (z := r2) (fun y : List Int => lat_Downs_J4 t43_13 y) (fun y : List Int => mkSl 80 0 [(1, .val (.box (.st [.int .i64, .list (.st [.int .i64, .int .i64])])) (.b .n) t0_1), (2, .val (.list (.int .u16)) (.l .n) ([] : List Int)), (6, .val (.box (.arr 12 (.int .u16))) (.b .n) q_8), (9, .val (.list (.int .u16)) (.l .n) y), (42, .val (.int .i64) .n t42_11), (43, .val (.int .i64) .n t43_13)]) [1, 2, 6, 9, 42, 43] (fun _ h => h) (fun y H => ?_) (fun hJ4 => ?_)
              · obtain ⟨t9_21, rfl⟩ : ∃ v, v = y := ⟨y, rfl⟩
                replace H : lat_Downs_J4 t43_13 t9_21 = some r2 := H
                unfold lat_Downs_J4 at H
                refine tr_rg hP tabOk hsp fun A hA M hM => ?_
                cbv
                refine hM _ ?_
                exact Exists.intro _ (And.intro (Option.some.inj H).symm (by subst hA; rfl))
              · refine tr_cond rfl (fun hc => ?_) (fun hc => ?_)
                · replace H := if_t H hc
                  refine tr_rg hP tabOk hsp fun A hA M hM => ?_
                  cbv
                  obtain ⟨ob1, H⟩ := ck_out H
                  refine ⟨by subst hA; exact ob1, hM _ ?_⟩
                  exact hJ4 (t9_12 ++ ([IntKind.wrap .u16 t43_13])) _ H (by subst hA; rfl)
                · replace H := if_f H hc
                  refine tr_skip ?_
                  exact hJ4 t9_12 _ H (by rfl)
            · obtain ⟨t11_16, t48_17⟩ := x
              replace H : lat_Downs_L3 t0_1 q_8 t43_13 t11_16 t48_17 = some r3 := H
              unfold lat_Downs_L3 at H
              refine tr_seq ?_
              refine tr_rg hP tabOk hsp fun A hA M hM => ?_
              cbv
              refine hM _ ?_
              refine tr_seq ?_
              refine tr_keep [1, 2, 6, 9, 10, 11, 42, 43, 47, 48, 49] (σ' := mkSl 80 0 [(1, .val (.box (.st [.int .i64, .list (.st [.int .i64, .int .i64])])) (.b .n) t0_1), (2, .val (.list (.int .u16)) (.l .n) ([] : List Int)), (6, .val (.box (.arr 12 (.int .u16))) (.b .n) q_8), (9, .val (.list (.int .u16)) (.l .n) t9_12), (10, .val (.int .i64) .n t43_13), (11, .val (.bool) .n t11_16), (42, .val (.int .i64) .n t42_11), (43, .val (.int .i64) .n t43_13), (47, .val (.int .i64) .n t0_1.1), (48, .val (.int .i64) .n t48_17), (49, .val (.bool) .n (decide (t48_17 < t0_1.1)))]) (by subst hA; rfl) ?_
              clear hM hA M A
              refine tr_cond rfl (fun hc => ?_) (fun hc => ?_)
              · replace H := if_t H hc
                refine tr_keep [1, 2, 6, 9, 10, 11, 42, 43, 47, 48] (σ' := mkSl 80 0 [(1, .val (.box (.st [.int .i64, .list (.st [.int .i64, .int .i64])])) (.b .n) t0_1), (2, .val (.list (.int .u16)) (.l .n) ([] : List Int)), (6, .val (.box (.arr 12 (.int .u16))) (.b .n) q_8), (9, .val (.list (.int .u16)) (.l .n) t9_12), (10, .val (.int .i64) .n t43_13), (11, .val (.bool) .n t11_16), (42, .val (.int .i64) .n t42_11), (43, .val (.int .i64) .n t43_13), (47, .val (.int .i64) .n t0_1.1), (48, .val (.int .i64) .n t48_17)]) rfl ?_
                refine tr_skip ?_
                refine tr_seq ?_
                refine tr_block ?_
                refine tr_seq ?_
                refine tr_rg hP tabOk hsp fun A hA M hM => ?_
                cbv
                refine hM _ ?_
                refine tr_keep [1, 2, 6, 9, 10, 11, 12, 42, 43, 47, 48] (σ' := mkSl 80 0 [(1, .val (.box (.st [.int .i64, .list (.st [.int .i64, .int .i64])])) (.b .n) t0_1), (2, .val (.list (.int .u16)) (.l .n) ([] : List Int)), (6, .val (.box (.arr 12 (.int .u16))) (.b .n) q_8), (9, .val (.list (.int .u16)) (.l .n) t9_12), (10, .val (.int .i64) .n t43_13), (11, .val (.bool) .n t11_16), (12, .val (.int .i64) .n t48_17), (42, .val (.int .i64) .n t42_11), (43, .val (.int .i64) .n t43_13), (47, .val (.int .i64) .n t0_1.1), (48, .val (.int .i64) .n t48_17)]) (by subst hA; rfl) ?_
                clear hM hA M A
                refine tr_rg hP tabOk hsp fun A hA M hM => ?_
                cbv
                obtain ⟨ob1, H⟩ := ck_out H
                obtain ⟨ob2, H⟩ := ck_out H
                obtain ⟨ob3, H⟩ := ck_out H
                refine ⟨by subst hA; exact ob1, by subst hA; exact ob2, by subst hA; exact ob3, hM _ ?_⟩
                refine tr_keepL [1, 2, 6, 9, 10, 11, 42, 43, 47, 48] (fun t11_20 : Bool => mkSl 80 0 [(1, .val (.box (.st [.int .i64, .list (.st [.int .i64, .int .i64])])) (.b .n) t0_1), (2, .val (.list (.int .u16)) (.l .n) ([] : List Int)), (6, .val (.box (.arr 12 (.int .u16))) (.b .n) q_8), (9, .val (.list (.int .u16)) (.l .n) t9_12), (10, .val (.int .i64) .n t43_13), (11, .val (.bool) .n t11_20), (42, .val (.int .i64) .n t42_11), (43, .val (.int .i64) .n t43_13), (47, .val (.int .i64) .n t0_1.1), (48, .val (.int .i64) .n t48_17)]) H (by subst hA; rfl) (fun t11_20 H => ?_)
                clear ob3 ob2 ob1 hM hA M A
                refine tr_rg hP tabOk hsp fun A hA M hM => ?_
                cbv
                refine hM _ ?_
                exact Exists.intro _ (And.intro (Option.some.inj H).symm (by subst hA; rfl))
              · replace H := if_f H hc
                refine tr_keep [1, 2, 6, 9, 10, 11, 42, 43, 47, 48] (σ' := mkSl 80 0 [(1, .val (.box (.st [.int .i64, .list (.st [.int .i64, .int .i64])])) (.b .n) t0_1), (2, .val (.list (.int .u16)) (.l .n) ([] : List Int)), (6, .val (.box (.arr 12 (.int .u16))) (.b .n) q_8), (9, .val (.list (.int .u16)) (.l .n) t9_12), (10, .val (.int .i64) .n t43_13), (11, .val (.bool) .n t11_16), (42, .val (.int .i64) .n t42_11), (43, .val (.int .i64) .n t43_13), (47, .val (.int .i64) .n t0_1.1), (48, .val (.int .i64) .n t48_17)]) rfl ?_
                refine tr_exit ?_
                exact And.intro rfl (Exists.intro _ (And.intro (Option.some.inj H).symm (by rfl)))
          · replace H := if_f H hc
            refine tr_keep [1, 2, 6, 9, 42, 43] (σ' := mkSl 80 0 [(1, .val (.box (.st [.int .i64, .list (.st [.int .i64, .int .i64])])) (.b .n) t0_1), (2, .val (.list (.int .u16)) (.l .n) ([] : List Int)), (6, .val (.box (.arr 12 (.int .u16))) (.b .n) q_8), (9, .val (.list (.int .u16)) (.l .n) t9_12), (42, .val (.int .i64) .n t42_11), (43, .val (.int .i64) .n t43_13)]) rfl ?_
            refine tr_exit ?_
            exact And.intro rfl (Exists.intro _ (And.intro (Option.some.inj H).symm (by rfl)))
      · obtain ⟨t6_5, t26_6⟩ := x
        replace H : lat_Downs_L1 r_2 t25_4 t6_5 t26_6 = some r1 := H
        unfold lat_Downs_L1 at H
        refine tr_seq ?_
        refine tr_rg hP tabOk hsp fun A hA M hM => ?_
        cbv
        refine hM _ ?_
        refine tr_seq ?_
        refine tr_keep [1, 2, 4, 6, 24, 25, 26, 27] (σ' := mkSl 80 0 [(1, .val (.box (.st [.int .i64, .list (.st [.int .i64, .int .i64])])) (.b .n) t0_1), (2, .val (.list (.int .u16)) (.l .n) ([] : List Int)), (4, .val (.list (.st [.int .i64, .int .i64])) (.l .n) r_2.1), (6, .val (.box (.arr 12 (.int .u16))) (.b .n) t6_5), (24, .bor 4 []), (25, .val (.int .i64) .n t25_4), (26, .val (.int .i64) .n t26_6), (27, .val (.bool) .n (decide (t26_6 < t25_4)))]) (by subst hA; rfl) ?_
        clear hM hA M A
        refine tr_cond rfl (fun hc => ?_) (fun hc => ?_)
        · replace H := if_t H hc
          refine tr_keep [1, 2, 4, 6, 24, 25, 26] (σ' := mkSl 80 0 [(1, .val (.box (.st [.int .i64, .list (.st [.int .i64, .int .i64])])) (.b .n) t0_1), (2, .val (.list (.int .u16)) (.l .n) ([] : List Int)), (4, .val (.list (.st [.int .i64, .int .i64])) (.l .n) r_2.1), (6, .val (.box (.arr 12 (.int .u16))) (.b .n) t6_5), (24, .bor 4 []), (25, .val (.int .i64) .n t25_4), (26, .val (.int .i64) .n t26_6)]) rfl ?_
          refine tr_skip ?_
          refine tr_seq ?_
          refine tr_block ?_
          refine tr_seq ?_
          refine tr_rg hP tabOk hsp fun A hA M hM => ?_
          cbv
          obtain ⟨ob1, H⟩ := ck_out H
          refine ⟨by subst hA; exact ob1, hM _ ?_⟩
          refine tr_keepL [1, 2, 4, 6, 8, 24, 25, 26] (fun t8_9 : (Int × Int × Unit) => mkSl 80 0 [(1, .val (.box (.st [.int .i64, .list (.st [.int .i64, .int .i64])])) (.b .n) t0_1), (2, .val (.list (.int .u16)) (.l .n) ([] : List Int)), (4, .val (.list (.st [.int .i64, .int .i64])) (.l .n) r_2.1), (6, .val (.box (.arr 12 (.int .u16))) (.b .n) t6_5), (8, .val (.box (.st [.int .i64, .int .i64])) (.b .n) t8_9), (24, .bor 4 []), (25, .val (.int .i64) .n t25_4), (26, .val (.int .i64) .n t26_6)]) H (by subst hA; rfl) (fun t8_9 H => ?_)
          clear ob1 hM hA M A
          refine tr_rg hP tabOk hsp fun A hA M hM => ?_
          cbv
          obtain ⟨ob1, H⟩ := ck_out H
          obtain ⟨ob2, H⟩ := ck_out H
          obtain ⟨ob3, H⟩ := ck_out H
          refine ⟨by subst hA; exact ob1, by subst hA; exact ob2, by subst hA; exact ob3, hM _ ?_⟩
          refine tr_keepL [1, 2, 4, 6, 24, 25, 26] (fun t6_10 : List Int => mkSl 80 0 [(1, .val (.box (.st [.int .i64, .list (.st [.int .i64, .int .i64])])) (.b .n) t0_1), (2, .val (.list (.int .u16)) (.l .n) ([] : List Int)), (4, .val (.list (.st [.int .i64, .int .i64])) (.l .n) r_2.1), (6, .val (.box (.arr 12 (.int .u16))) (.b .n) t6_10), (24, .bor 4 []), (25, .val (.int .i64) .n t25_4), (26, .val (.int .i64) .n t26_6)]) H (by subst hA; rfl) (fun t6_10 H => ?_)
          clear ob3 ob2 ob1 hM hA M A
          refine tr_rg hP tabOk hsp fun A hA M hM => ?_
          cbv
          refine hM _ ?_
          exact Exists.intro _ (And.intro (Option.some.inj H).symm (by subst hA; rfl))
        · replace H := if_f H hc
          refine tr_keep [1, 2, 4, 6, 24, 25, 26] (σ' := mkSl 80 0 [(1, .val (.box (.st [.int .i64, .list (.st [.int .i64, .int .i64])])) (.b .n) t0_1), (2, .val (.list (.int .u16)) (.l .n) ([] : List Int)), (4, .val (.list (.st [.int .i64, .int .i64])) (.l .n) r_2.1), (6, .val (.box (.arr 12 (.int .u16))) (.b .n) t6_5), (24, .bor 4 []), (25, .val (.int .i64) .n t25_4), (26, .val (.int .i64) .n t26_6)]) rfl ?_
          refine tr_exit ?_
          exact And.intro rfl (Exists.intro _ (And.intro (Option.some.inj H).symm (by rfl)))
theorem lat_Downs_sp : ∃ (pg : PT.denL [.st [.int .i64, .list (.st [.int .i64, .int .i64])]] → Prop) (fg : PT.denL [.st [.int .i64, .list (.st [.int .i64, .int .i64])]] → PT.denL [.list (.int .u16), .int .i64]), SpecRuns Try.prog 17 ⟨[.st [.int .i64, .list (.st [.int .i64, .int .i64])]], [.v], [.list (.int .u16), .int .i64], [.l .n, .n], pg, fg⟩ ∧ (∀ {a1 : (Int × List ((Int × Int × Unit)) × Unit)} {y : List Int × Int}, lat_Downs a1 = some y → pg (a1, ()) ∧ y = ((fg (a1, ())).1, (fg (a1, ())).2.1)) ∧ (∀ {a1 : (Int × List ((Int × Int × Unit)) × Unit)}, (lat_Downs a1).isSome = true → pg (a1, ())) ∧ ∀ {a1 : (Int × List ((Int × Int × Unit)) × Unit)}, (lat_Downs a1).getD (([] : List Int), (0 : Int)) = ((fg (a1, ())).1, (fg (a1, ())).2.1) := by
  obtain ⟨pg, fg, h, hc, hi, hd⟩ := spec_hide lat_Downs_runs
  refine ⟨pg, fg, h, ?_, ?_, ?_⟩
  · intro a1 y e
    obtain ⟨h1, h2⟩ := hc (a1, ()) (y.1, y.2, ()) (congrArg (Option.map fun r => (r.1, r.2, ())) e)
    exact ⟨h1, by first | (rw [h2]; done) | (rw [h2]; rfl)⟩
  · intro a1
    intro e
    exact hi (a1, ()) (map_isSome e)
  · intro a1
    rw [hd (a1, ())]
    cases lat_Downs a1 <;> rfl
end Go.Proofs.Ytaachifkgcdeoaa.Lt
