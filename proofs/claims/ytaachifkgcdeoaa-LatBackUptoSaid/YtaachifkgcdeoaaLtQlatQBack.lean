/- Functions of the program as functions that may fail, and that the code computes them (printed). Each theorem bears its conditions itself. -/
import Derived.Test.YtaachifkgcdeoaaLtDefs
import Derived.Test.YtaachifkgcdeoaaLtTab
import Derived.Test.YtaachifkgcdeoaaLtQlatQFirm
open Go Go.Proofs.Ytaachifkgcdeoaa.Sy Go.Proofs
set_option maxHeartbeats 4000000
set_option maxRecDepth 100000
set_option cbv.maxSteps 10000000
set_option linter.unusedVariables false
set_option linter.unusedSimpArgs false
namespace Go.Proofs.Ytaachifkgcdeoaa.Lt
theorem lat_Back_runs : SpecRuns Try.prog 19 (oSpec [.list (.int .u16)] [.v] [.st [.int .i64, .list (.st [.int .i64, .int .i64])], .int .i64] [.s [.n, (.l .n)], .n] fun x => (lat_Back x.1).map fun r => (r.1, r.2, ())) := by
  obtain ⟨pg13, fg13, hs13, hc13, hi13, hd13⟩ := lat_Firm_sp
  have hsp : SpecsOk Try.prog [(13, ⟨[.list (.int .u16)], [.v], [.list (.int .u16), .int .i64], [.l .n, .n], pg13, fg13⟩)] := (specsOk_cons Try.func13 (by kernel_rfl) (by kernel_rfl) hs13 specsOk_nil)
  refine runs_of_o tabOk Try.func19 rfl (Nat.le_of_ble_eq_true rfl) rfl ?_
  rintro E ⟨(l_1 : List Int), ⟨⟩⟩ y hP H hw
  obtain ⟨z, H1, rfl⟩ := map_out H
  replace H : lat_Back l_1 = some z := H1
  clear hw H1
  unfold lat_Back at H
  refine tr_keep [0] (σ' := mkSl 58 0 [(0, .val (.list (.int .u16)) .n l_1)]) rfl ?_
  refine tr_seq ?_
  refine tr_rg hP tabOk hsp fun A hA M hM => ?_
  cbv
  refine hM _ ?_
  refine tr_seq ?_
  refine tr_keep [0, 2] (σ' := mkSl 58 0 [(0, .val (.list (.int .u16)) .n l_1), (2, .val (.box (.st [.int .i64, .list (.st [.int .i64, .int .i64])])) (.b (.s [.n, (.l .n)])) ((0 : Int), ([] : List ((Int × Int × Unit))), ()))]) (by subst hA; rfl) ?_
  clear hM hA M A
  refine tr_rg hP tabOk hsp fun A hA M hM => ?_
  cbv
  obtain ⟨r_2, hr1, H⟩ := bind_out H
  obtain ⟨pq1, eq1⟩ := hc13 hr1
  refine ⟨by subst hA; subst eq1; exact pq1, hM _ ?_⟩
  refine tr_seq ?_
  refine tr_seq ?_
  refine tr_keep [2, 4, 5] (σ' := mkSl 58 0 [(2, .val (.box (.st [.int .i64, .list (.st [.int .i64, .int .i64])])) (.b (.s [.n, (.l .n)])) ((0 : Int), ([] : List ((Int × Int × Unit))), ())), (4, .val (.list (.int .u16)) (.l .n) r_2.1), (5, .val (.int .i64) .n r_2.2)]) (by subst hA; subst eq1; rfl) ?_
  clear pq1 eq1 hr1 hM hA M A
  refine tr_rg hP tabOk hsp fun A hA M hM => ?_
  cbv
  refine hM _ ?_
  refine tr_keep [2, 4, 5, 17] (σ' := mkSl 58 0 [(2, .val (.box (.st [.int .i64, .list (.st [.int .i64, .int .i64])])) (.b (.s [.n, (.l .n)])) ((0 : Int), ([] : List ((Int × Int × Unit))), ())), (4, .val (.list (.int .u16)) (.l .n) r_2.1), (5, .val (.int .i64) .n r_2.2), (17, .val (.bool) .n (r_2.2 != (0 : Int)))]) (by subst hA; rfl) ?_
  clear hM hA M A
  refine tr_cond rfl (fun hc => ?_) (fun hc => ?_)
  · replace H := if_t H hc
    refine tr_keep [2, 4, 5] (σ' := mkSl 58 0 [(2, .val (.box (.st [.int .i64, .list (.st [.int .i64, .int .i64])])) (.b (.s [.n, (.l .n)])) ((0 : Int), ([] : List ((Int × Int × Unit))), ())), (4, .val (.list (.int .u16)) (.l .n) r_2.1), (5, .val (.int .i64) .n r_2.2)]) rfl ?_
    refine tr_seq ?_
    refine tr_rg hP tabOk hsp fun A hA M hM => ?_
    cbv
    refine hM _ ?_
    refine tr_ret ?_
    have hr := Option.some.inj H
    subst hr
    subst hA
    exact rfl
  · replace H := if_f H hc
    refine tr_keep [2, 4, 5] (σ' := mkSl 58 0 [(2, .val (.box (.st [.int .i64, .list (.st [.int .i64, .int .i64])])) (.b (.s [.n, (.l .n)])) ((0 : Int), ([] : List ((Int × Int × Unit))), ())), (4, .val (.list (.int .u16)) (.l .n) r_2.1), (5, .val (.int .i64) .n r_2.2)]) rfl ?_
    refine tr_skip ?_
    refine tr_seq ?_
    refine tr_rg hP tabOk hsp fun A hA M hM => ?_
    cbv
    refine hM _ ?_
    refine tr_seq ?_
    refine tr_seq ?_
    refine tr_keepL [2, 4, 6] (fun out_3 : Int => mkSl 58 0 [(2, .val (.box (.st [.int .i64, .list (.st [.int .i64, .int .i64])])) (.b (.s [.n, (.l .n)])) ((0 : Int), ([] : List ((Int × Int × Unit))), ())), (4, .val (.list (.int .u16)) (.l .n) r_2.1), (6, .val (.box (.st [.int .i64, .list (.st [.int .i64, .int .i64])])) (.b (.s [.n, (.l .n)])) (out_3, ([] : List ((Int × Int × Unit))), ()))]) H (by subst hA; rfl) (fun out_3 H => ?_)
    clear hM hA M A
    refine tr_rg hP tabOk hsp fun A hA M hM => ?_
    cbv
    refine hM _ ?_
    refine tr_block ?_
    refine tr_keepL [2, 4, 6, 23, 24, 25] (fun t24_4 : Int => mkSl 58 0 [(2, .val (.box (.st [.int .i64, .list (.st [.int .i64, .int .i64])])) (.b (.s [.n, (.l .n)])) ((0 : Int), ([] : List ((Int × Int × Unit))), ())), (4, .val (.list (.int .u16)) (.l .n) r_2.1), (6, .val (.box (.st [.int .i64, .list (.st [.int .i64, .int .i64])])) (.b (.s [.n, (.l .n)])) (out_3, ([] : List ((Int × Int × Unit))), ())), (23, .bor 4 []), (24, .val (.int .i64) .n t24_4), (25, .val (.int .i64) .n (0 : Int))]) H (by subst hA; rfl) (fun t24_4 H => ?_)
    clear hM hA M A
    obtain ⟨q_8, hq, H⟩ := bind_out H
    refine tr_loopB 0 (fun x : List ((Int × Int × Unit)) × Int => lat_Back_L1 r_2 t24_4 x.1 x.2) (fun x : List ((Int × Int × Unit)) × Int => mkSl 58 0 [(2, .val (.box (.st [.int .i64, .list (.st [.int .i64, .int .i64])])) (.b (.s [.n, (.l .n)])) ((0 : Int), ([] : List ((Int × Int × Unit))), ())), (4, .val (.list (.int .u16)) (.l .n) r_2.1), (6, .val (.box (.st [.int .i64, .list (.st [.int .i64, .int .i64])])) (.b (.s [.n, (.l .n)])) (out_3, x.1, ())), (23, .bor 4 []), (24, .val (.int .i64) .n t24_4), (25, .val (.int .i64) .n x.2)]) [2, 4, 6, 23, 24, 25] (fun q_8 : List ((Int × Int × Unit)) => mkSl 58 0 [(2, .val (.box (.st [.int .i64, .list (.st [.int .i64, .int .i64])])) (.b (.s [.n, (.l .n)])) ((0 : Int), ([] : List ((Int × Int × Unit))), ())), (6, .val (.box (.st [.int .i64, .list (.st [.int .i64, .int .i64])])) (.b (.s [.n, (.l .n)])) (out_3, q_8, ()))]) [2, 6] hq rfl (fun σ' h => ?_) (fun x r1 H => ?_)
    · refine tr_keep [2, 6] h ?_
      refine tr_seq ?_
      refine tr_rg hP tabOk hsp fun A hA M hM => ?_
      cbv
      refine hM _ ?_
      refine tr_ret ?_
      have hr := Option.some.inj H
      subst hr
      subst hA
      exact rfl
    · obtain ⟨out_5, t25_6⟩ := x
      replace H : lat_Back_L1 r_2 t24_4 out_5 t25_6 = some r1 := H
      unfold lat_Back_L1 at H
      refine tr_seq ?_
      refine tr_rg hP tabOk hsp fun A hA M hM => ?_
      cbv
      refine hM _ ?_
      refine tr_seq ?_
      refine tr_keep [2, 4, 6, 23, 24, 25, 26] (σ' := mkSl 58 0 [(2, .val (.box (.st [.int .i64, .list (.st [.int .i64, .int .i64])])) (.b (.s [.n, (.l .n)])) ((0 : Int), ([] : List ((Int × Int × Unit))), ())), (4, .val (.list (.int .u16)) (.l .n) r_2.1), (6, .val (.box (.st [.int .i64, .list (.st [.int .i64, .int .i64])])) (.b (.s [.n, (.l .n)])) (out_3, out_5, ())), (23, .bor 4 []), (24, .val (.int .i64) .n t24_4), (25, .val (.int .i64) .n t25_6), (26, .val (.bool) .n (decide (t25_6 < t24_4)))]) (by subst hA; rfl) ?_
      clear hM hA M A
      refine tr_cond rfl (fun hc => ?_) (fun hc => ?_)
      · replace H := if_t H hc
        refine tr_keep [2, 4, 6, 23, 24, 25] (σ' := mkSl 58 0 [(2, .val (.box (.st [.int .i64, .list (.st [.int .i64, .int .i64])])) (.b (.s [.n, (.l .n)])) ((0 : Int), ([] : List ((Int × Int × Unit))), ())), (4, .val (.list (.int .u16)) (.l .n) r_2.1), (6, .val (.box (.st [.int .i64, .list (.st [.int .i64, .int .i64])])) (.b (.s [.n, (.l .n)])) (out_3, out_5, ())), (23, .bor 4 []), (24, .val (.int .i64) .n t24_4), (25, .val (.int .i64) .n t25_6)]) rfl ?_
        refine tr_skip ?_
        refine tr_seq ?_
        refine tr_block ?_
        refine tr_seq ?_
        refine tr_rg hP tabOk hsp fun A hA M hM => ?_
        cbv
        obtain ⟨ob1, H⟩ := ck_out H
        refine ⟨by subst hA; exact ob1, hM _ ?_⟩
        refine tr_seq ?_
        refine tr_keepL [2, 4, 6, 7, 8, 23, 24, 25] (fun s_9 : Int => mkSl 58 0 [(2, .val (.box (.st [.int .i64, .list (.st [.int .i64, .int .i64])])) (.b (.s [.n, (.l .n)])) ((0 : Int), ([] : List ((Int × Int × Unit))), ())), (4, .val (.list (.int .u16)) (.l .n) r_2.1), (6, .val (.box (.st [.int .i64, .list (.st [.int .i64, .int .i64])])) (.b (.s [.n, (.l .n)])) (out_3, out_5, ())), (7, .val (.int .i64) .n t25_6), (8, .val (.int .u16) .n s_9), (23, .bor 4 []), (24, .val (.int .i64) .n t24_4), (25, .val (.int .i64) .n t25_6)]) H (by subst hA; rfl) (fun s_9 H => ?_)
        clear ob1 hM hA M A
        refine tr_rg hP tabOk hsp fun A hA M hM => ?_
        cbv
        refine hM _ ?_
        refine tr_block ?_
        refine tr_keepL [2, 4, 6, 7, 8, 23, 24, 25, 30, 31, 32] (fun t31_10 : Int => mkSl 58 0 [(2, .val (.box (.st [.int .i64, .list (.st [.int .i64, .int .i64])])) (.b (.s [.n, (.l .n)])) ((0 : Int), ([] : List ((Int × Int × Unit))), ())), (4, .val (.list (.int .u16)) (.l .n) r_2.1), (6, .val (.box (.st [.int .i64, .list (.st [.int .i64, .int .i64])])) (.b (.s [.n, (.l .n)])) (out_3, out_5, ())), (7, .val (.int .i64) .n t25_6), (8, .val (.int .u16) .n s_9), (23, .bor 4 []), (24, .val (.int .i64) .n t24_4), (25, .val (.int .i64) .n t25_6), (30, .bor 4 []), (31, .val (.int .i64) .n t31_10), (32, .val (.int .i64) .n (0 : Int))]) H (by subst hA; rfl) (fun t31_10 H => ?_)
        clear hM hA M A
        obtain ⟨q_14, hq, H⟩ := bind_out H
        refine tr_loopB 2 (fun x : List ((Int × Int × Unit)) × Int => lat_Back_L2 r_2 t25_6 s_9 t31_10 x.1 x.2) (fun x : List ((Int × Int × Unit)) × Int => mkSl 58 0 [(2, .val (.box (.st [.int .i64, .list (.st [.int .i64, .int .i64])])) (.b (.s [.n, (.l .n)])) ((0 : Int), ([] : List ((Int × Int × Unit))), ())), (4, .val (.list (.int .u16)) (.l .n) r_2.1), (6, .val (.box (.st [.int .i64, .list (.st [.int .i64, .int .i64])])) (.b (.s [.n, (.l .n)])) (out_3, x.1, ())), (7, .val (.int .i64) .n t25_6), (8, .val (.int .u16) .n s_9), (23, .bor 4 []), (24, .val (.int .i64) .n t24_4), (25, .val (.int .i64) .n t25_6), (30, .bor 4 []), (31, .val (.int .i64) .n t31_10), (32, .val (.int .i64) .n x.2)]) [2, 4, 6, 7, 8, 23, 24, 25, 30, 31, 32] (fun q_14 : List ((Int × Int × Unit)) => mkSl 58 0 [(2, .val (.box (.st [.int .i64, .list (.st [.int .i64, .int .i64])])) (.b (.s [.n, (.l .n)])) ((0 : Int), ([] : List ((Int × Int × Unit))), ())), (4, .val (.list (.int .u16)) (.l .n) r_2.1), (6, .val (.box (.st [.int .i64, .list (.st [.int .i64, .int .i64])])) (.b (.s [.n, (.l .n)])) (out_3, q_14, ())), (23, .bor 4 []), (24, .val (.int .i64) .n t24_4), (25, .val (.int .i64) .n t25_6)]) [2, 4, 6, 23, 24, 25] hq rfl (fun σ' h => ?_) (fun x r2 H => ?_)
        · refine tr_keep [2, 4, 6, 23, 24, 25] h ?_
          refine tr_rg hP tabOk hsp fun A hA M hM => ?_
          cbv
          refine hM _ ?_
          exact Exists.intro _ (And.intro (Option.some.inj H).symm (by subst hA; rfl))
        · obtain ⟨out_11, t32_12⟩ := x
          replace H : lat_Back_L2 r_2 t25_6 s_9 t31_10 out_11 t32_12 = some r2 := H
          unfold lat_Back_L2 at H
          refine tr_seq ?_
          refine tr_rg hP tabOk hsp fun A hA M hM => ?_
          cbv
          refine hM _ ?_
          refine tr_seq ?_
          refine tr_keep [2, 4, 6, 7, 8, 23, 24, 25, 30, 31, 32, 33] (σ' := mkSl 58 0 [(2, .val (.box (.st [.int .i64, .list (.st [.int .i64, .int .i64])])) (.b (.s [.n, (.l .n)])) ((0 : Int), ([] : List ((Int × Int × Unit))), ())), (4, .val (.list (.int .u16)) (.l .n) r_2.1), (6, .val (.box (.st [.int .i64, .list (.st [.int .i64, .int .i64])])) (.b (.s [.n, (.l .n)])) (out_3, out_11, ())), (7, .val (.int .i64) .n t25_6), (8, .val (.int .u16) .n s_9), (23, .bor 4 []), (24, .val (.int .i64) .n t24_4), (25, .val (.int .i64) .n t25_6), (30, .bor 4 []), (31, .val (.int .i64) .n t31_10), (32, .val (.int .i64) .n t32_12), (33, .val (.bool) .n (decide (t32_12 < t31_10)))]) (by subst hA; rfl) ?_
          clear hM hA M A
          refine tr_cond rfl (fun hc => ?_) (fun hc => ?_)
          · replace H := if_t H hc
            refine tr_keep [2, 4, 6, 7, 8, 23, 24, 25, 30, 31, 32] (σ' := mkSl 58 0 [(2, .val (.box (.st [.int .i64, .list (.st [.int .i64, .int .i64])])) (.b (.s [.n, (.l .n)])) ((0 : Int), ([] : List ((Int × Int × Unit))), ())), (4, .val (.list (.int .u16)) (.l .n) r_2.1), (6, .val (.box (.st [.int .i64, .list (.st [.int .i64, .int .i64])])) (.b (.s [.n, (.l .n)])) (out_3, out_11, ())), (7, .val (.int .i64) .n t25_6), (8, .val (.int .u16) .n s_9), (23, .bor 4 []), (24, .val (.int .i64) .n t24_4), (25, .val (.int .i64) .n t25_6), (30, .bor 4 []), (31, .val (.int .i64) .n t31_10), (32, .val (.int .i64) .n t32_12)]) rfl ?_
            refine tr_skip ?_
            refine tr_seq ?_
            refine tr_block ?_
            refine tr_seq ?_
            refine tr_rg hP tabOk hsp fun A hA M hM => ?_
            cbv
            obtain ⟨ob1, H⟩ := ck_out H
            refine ⟨by subst hA; exact ob1, hM _ ?_⟩
            refine tr_seq ?_
            refine tr_keepL [2, 4, 6, 7, 8, 9, 10, 23, 24, 25, 30, 31, 32] (fun t_15 : Int => mkSl 58 0 [(2, .val (.box (.st [.int .i64, .list (.st [.int .i64, .int .i64])])) (.b (.s [.n, (.l .n)])) ((0 : Int), ([] : List ((Int × Int × Unit))), ())), (4, .val (.list (.int .u16)) (.l .n) r_2.1), (6, .val (.box (.st [.int .i64, .list (.st [.int .i64, .int .i64])])) (.b (.s [.n, (.l .n)])) (out_3, out_11, ())), (7, .val (.int .i64) .n t25_6), (8, .val (.int .u16) .n s_9), (9, .val (.int .i64) .n t32_12), (10, .val (.int .u16) .n t_15), (23, .bor 4 []), (24, .val (.int .i64) .n t24_4), (25, .val (.int .i64) .n t25_6), (30, .bor 4 []), (31, .val (.int .i64) .n t31_10), (32, .val (.int .i64) .n t32_12)]) H (by subst hA; rfl) (fun t_15 H => ?_)
            clear ob1 hM hA M A
            refine tr_rg hP tabOk hsp fun A hA M hM => ?_
            cbv
            refine hM _ ?_
            refine tr_keep [2, 4, 6, 7, 8, 9, 23, 24, 25, 30, 31, 32, 46] (σ' := mkSl 58 0 [(2, .val (.box (.st [.int .i64, .list (.st [.int .i64, .int .i64])])) (.b (.s [.n, (.l .n)])) ((0 : Int), ([] : List ((Int × Int × Unit))), ())), (4, .val (.list (.int .u16)) (.l .n) r_2.1), (6, .val (.box (.st [.int .i64, .list (.st [.int .i64, .int .i64])])) (.b (.s [.n, (.l .n)])) (out_3, out_11, ())), (7, .val (.int .i64) .n t25_6), (8, .val (.int .u16) .n s_9), (9, .val (.int .i64) .n t32_12), (23, .bor 4 []), (24, .val (.int .i64) .n t24_4), (25, .val (.int .i64) .n t25_6), (30, .bor 4 []), (31, .val (.int .i64) .n t31_10), (32, .val (.int .i64) .n t32_12), (46, .val (.bool) .n ((t25_6 != t32_12) && ((arR .and .u16 s_9 t_15) == s_9)))]) (by subst hA; rfl) ?_
            clear hM hA M A
            refine tr_join (z := r2) (fun y : List ((Int × Int × Unit)) => lat_Back_J3 t32_12 y) (fun y : List ((Int × Int × Unit)) => mkSl 58 0 [(2, .val (.box (.st [.int .i64, .list (.st [.int .i64, .int .i64])])) (.b (.s [.n, (.l .n)])) ((0 : Int), ([] : List ((Int × Int × Unit))), ())), (4, .val (.list (.int .u16)) (.l .n) r_2.1), (6, .val (.box (.st [.int .i64, .list (.st [.int .i64, .int .i64])])) (.b (.s [.n, (.l .n)])) (out_3, y, ())), (7, .val (.int .i64) .n t25_6), (8, .val (.int .u16) .n s_9), (23, .bor 4 []), (24, .val (.int .i64) .n t24_4), (25, .val (.int .i64) .n t25_6), (30, .bor 4 []), (31, .val (.int .i64) .n t31_10), (32, .val (.int .i64) .n t32_12)]) [2, 4, 6, 7, 8, 23, 24, 25, 30, 31, 32] (fun _ h => h) (fun y H => ?_) (fun hJ3 => ?_)
            · obtain ⟨out_16, rfl⟩ : ∃ v, v = y := ⟨y, rfl⟩
              replace H : lat_Back_J3 t32_12 out_16 = some r2 := H
              unfold lat_Back_J3 at H
              refine tr_rg hP tabOk hsp fun A hA M hM => ?_
              cbv
              refine hM _ ?_
              exact Exists.intro _ (And.intro (Option.some.inj H).symm (by subst hA; rfl))
            · refine tr_cond rfl (fun hc => ?_) (fun hc => ?_)
              · replace H := if_t H hc
                refine tr_keep [2, 4, 6, 7, 8, 9, 23, 24, 25, 30, 31, 32] (σ' := mkSl 58 0 [(2, .val (.box (.st [.int .i64, .list (.st [.int .i64, .int .i64])])) (.b (.s [.n, (.l .n)])) ((0 : Int), ([] : List ((Int × Int × Unit))), ())), (4, .val (.list (.int .u16)) (.l .n) r_2.1), (6, .val (.box (.st [.int .i64, .list (.st [.int .i64, .int .i64])])) (.b (.s [.n, (.l .n)])) (out_3, out_11, ())), (7, .val (.int .i64) .n t25_6), (8, .val (.int .u16) .n s_9), (9, .val (.int .i64) .n t32_12), (23, .bor 4 []), (24, .val (.int .i64) .n t24_4), (25, .val (.int .i64) .n t25_6), (30, .bor 4 []), (31, .val (.int .i64) .n t31_10), (32, .val (.int .i64) .n t32_12)]) rfl ?_
                refine tr_rg hP tabOk hsp fun A hA M hM => ?_
                cbv
                obtain ⟨ob1, H⟩ := ck_out H
                refine ⟨by subst hA; exact ob1, hM _ ?_⟩
                exact hJ3 (out_11 ++ [(t25_6, t32_12, ())]) _ H (by subst hA; rfl)
              · replace H := if_f H hc
                refine tr_keep [2, 4, 6, 7, 8, 9, 23, 24, 25, 30, 31, 32] (σ' := mkSl 58 0 [(2, .val (.box (.st [.int .i64, .list (.st [.int .i64, .int .i64])])) (.b (.s [.n, (.l .n)])) ((0 : Int), ([] : List ((Int × Int × Unit))), ())), (4, .val (.list (.int .u16)) (.l .n) r_2.1), (6, .val (.box (.st [.int .i64, .list (.st [.int .i64, .int .i64])])) (.b (.s [.n, (.l .n)])) (out_3, out_11, ())), (7, .val (.int .i64) .n t25_6), (8, .val (.int .u16) .n s_9), (9, .val (.int .i64) .n t32_12), (23, .bor 4 []), (24, .val (.int .i64) .n t24_4), (25, .val (.int .i64) .n t25_6), (30, .bor 4 []), (31, .val (.int .i64) .n t31_10), (32, .val (.int .i64) .n t32_12)]) rfl ?_
                refine tr_skip ?_
                exact hJ3 out_11 _ H (by rfl)
          · replace H := if_f H hc
            refine tr_keep [2, 4, 6, 7, 8, 23, 24, 25, 30, 31, 32] (σ' := mkSl 58 0 [(2, .val (.box (.st [.int .i64, .list (.st [.int .i64, .int .i64])])) (.b (.s [.n, (.l .n)])) ((0 : Int), ([] : List ((Int × Int × Unit))), ())), (4, .val (.list (.int .u16)) (.l .n) r_2.1), (6, .val (.box (.st [.int .i64, .list (.st [.int .i64, .int .i64])])) (.b (.s [.n, (.l .n)])) (out_3, out_11, ())), (7, .val (.int .i64) .n t25_6), (8, .val (.int .u16) .n s_9), (23, .bor 4 []), (24, .val (.int .i64) .n t24_4), (25, .val (.int .i64) .n t25_6), (30, .bor 4 []), (31, .val (.int .i64) .n t31_10), (32, .val (.int .i64) .n t32_12)]) rfl ?_
            refine tr_exit ?_
            exact And.intro rfl (Exists.intro _ (And.intro (Option.some.inj H).symm (by rfl)))
      · replace H := if_f H hc
        refine tr_keep [2, 4, 6, 23, 24, 25] (σ' := mkSl 58 0 [(2, .val (.box (.st [.int .i64, .list (.st [.int .i64, .int .i64])])) (.b (.s [.n, (.l .n)])) ((0 : Int), ([] : List ((Int × Int × Unit))), ())), (4, .val (.list (.int .u16)) (.l .n) r_2.1), (6, .val (.box (.st [.int .i64, .list (.st [.int .i64, .int .i64])])) (.b (.s [.n, (.l .n)])) (out_3, out_5, ())), (23, .bor 4 []), (24, .val (.int .i64) .n t24_4), (25, .val (.int .i64) .n t25_6)]) rfl ?_
        refine tr_exit ?_
        exact And.intro rfl (Exists.intro _ (And.intro (Option.some.inj H).symm (by rfl)))
theorem lat_Back_sp : ∃ (pg : PT.denL [.list (.int .u16)] → Prop) (fg : PT.denL [.list (.int .u16)] → PT.denL [.st [.int .i64, .list (.st [.int .i64, .int .i64])], .int .i64]), SpecRuns Try.prog 19 ⟨[.list (.int .u16)], [.v], [.st [.int .i64, .list (.st [.int .i64, .int .i64])], .int .i64], [.s [.n, (.l .n)], .n], pg, fg⟩ ∧ (∀ {a1 : List Int} {y : (Int × List ((Int × Int × Unit)) × Unit) × Int}, lat_Back a1 = some y → pg (a1, ()) ∧ y = ((fg (a1, ())).1, (fg (a1, ())).2.1)) ∧ (∀ {a1 : List Int}, (lat_Back a1).isSome = true → pg (a1, ())) ∧ ∀ {a1 : List Int}, (lat_Back a1).getD (((0 : Int), ([] : List ((Int × Int × Unit))), ()), (0 : Int)) = ((fg (a1, ())).1, (fg (a1, ())).2.1) := by
  obtain ⟨pg, fg, h, hc, hi, hd⟩ := spec_hide lat_Back_runs
  refine ⟨pg, fg, h, ?_, ?_, ?_⟩
  · intro a1 y e
    obtain ⟨h1, h2⟩ := hc (a1, ()) (y.1, y.2, ()) (congrArg (Option.map fun r => (r.1, r.2, ())) e)
    exact ⟨h1, by first | (rw [h2]; done) | (rw [h2]; rfl)⟩
  · intro a1
    intro e
    exact hi (a1, ()) (map_isSome e)
  · intro a1
    rw [hd (a1, ())]
    cases lat_Back a1 <;> rfl
end Go.Proofs.Ytaachifkgcdeoaa.Lt
