/- Functions of the program as functions that may fail, and that the code computes them (printed). Each theorem bears its conditions itself. -/
import Derived.Test.YtdahfpfkjljojaaCtDefs
import Derived.Test.YtdahfpfkjljojaaCtTab
import Derived.Test.YtdahfpfkjljojaaCtQcutQCheck
import Derived.Test.YtdahfpfkjljojaaCtQpredQsizes
open Go Go.Proofs.Ytdahfpfkjljojaa.Sy Go.Proofs
set_option maxHeartbeats 4000000
set_option maxRecDepth 100000
set_option cbv.maxSteps 10000000
set_option linter.unusedVariables false
set_option linter.unusedSimpArgs false
namespace Go.Proofs.Ytdahfpfkjljojaa.Ct
theorem pred_Check_runs : SpecRuns Try.prog 40 (oSpec [.list (.st [.int .i64, .int .i64, .int .i64]), .list (.list (.bool))] [.v, .v] [.int .i64] [.n] fun x => (pred_Check x.1 x.2.1).map fun r => (r, ())) := by
  obtain ⟨pg34, fg34, hs34, hc34, hi34, hd34⟩ := cut_Check_sp
  obtain ⟨pg42, fg42, hs42, hc42, hi42, hd42⟩ := pred_sizes_sp
  have hsp : SpecsOk Try.prog [(34, ⟨[.list (.st [.int .i64, .int .i64, .int .i64]), .arr 6 (.int .i64)], [.v, .v], [.int .i64], [.n], pg34, fg34⟩), (42, ⟨[.list (.st [.int .i64, .int .i64, .int .i64])], [.v], [.arr 6 (.int .i64)], [.n], pg42, fg42⟩)] := (specsOk_cons Try.func34 (by kernel_rfl) (by kernel_rfl) hs34 (specsOk_cons Try.func42 (by kernel_rfl) (by kernel_rfl) hs42 specsOk_nil))
  refine runs_of_o tabOk Try.func40 rfl (Nat.le_of_ble_eq_true rfl) rfl ?_
  rintro E ⟨(h_1 : List ((Int × Int × Int × Unit))), (truth_2 : List (List Bool)), ⟨⟩⟩ y hP H hw
  obtain ⟨z, H1, rfl⟩ := map_out H
  replace H : pred_Check h_1 truth_2 = some z := H1
  clear hw H1
  unfold pred_Check at H
  refine tr_keep [0, 1] (σ' := mkSl 35 0 [(0, .val (.list (.st [.int .i64, .int .i64, .int .i64])) .n h_1), (1, .val (.list (.list (.bool))) .n truth_2)]) rfl ?_
  refine tr_seq ?_
  refine tr_rg hP tabOk hsp fun A hA M hM => ?_
  cbv
  refine hM _ ?_
  refine tr_seq ?_
  refine tr_seq ?_
  refine tr_keep [0, 1] (σ' := mkSl 35 0 [(0, .val (.list (.st [.int .i64, .int .i64, .int .i64])) .n h_1), (1, .val (.list (.list (.bool))) .n truth_2)]) (by subst hA; rfl) ?_
  clear hM hA M A
  refine tr_rg hP tabOk hsp fun A hA M hM => ?_
  cbv
  obtain ⟨r_3, hr1, H⟩ := bind_out H
  obtain ⟨pq1, eq1⟩ := hc34 hr1
  refine ⟨by subst hA; subst eq1; exact pq1, hM _ ?_⟩
  refine tr_seq ?_
  refine tr_keep [0, 1, 5] (σ' := mkSl 35 0 [(0, .val (.list (.st [.int .i64, .int .i64, .int .i64])) .n h_1), (1, .val (.list (.list (.bool))) .n truth_2), (5, .val (.int .i64) .n r_3)]) (by subst hA; subst eq1; rfl) ?_
  clear pq1 eq1 hr1 hM hA M A
  refine tr_rg hP tabOk hsp fun A hA M hM => ?_
  cbv
  refine hM _ ?_
  refine tr_keep [0, 1, 5, 13] (σ' := mkSl 35 0 [(0, .val (.list (.st [.int .i64, .int .i64, .int .i64])) .n h_1), (1, .val (.list (.list (.bool))) .n truth_2), (5, .val (.int .i64) .n r_3), (13, .val (.bool) .n (r_3 != (0 : Int)))]) (by subst hA; rfl) ?_
  clear hM hA M A
  refine tr_cond rfl (fun hc => ?_) (fun hc => ?_)
  · replace H := if_t H hc
    refine tr_keep [0, 1, 5] (σ' := mkSl 35 0 [(0, .val (.list (.st [.int .i64, .int .i64, .int .i64])) .n h_1), (1, .val (.list (.list (.bool))) .n truth_2), (5, .val (.int .i64) .n r_3)]) rfl ?_
    refine tr_seq ?_
    refine tr_rg hP tabOk hsp fun A hA M hM => ?_
    cbv
    refine hM _ ?_
    refine tr_ret ?_
    have hr := Option.some.inj H
    subst hr
    subst hA
    exact rfl
  · replace H := if_f H hc
    refine tr_keep [0, 1, 5] (σ' := mkSl 35 0 [(0, .val (.list (.st [.int .i64, .int .i64, .int .i64])) .n h_1), (1, .val (.list (.list (.bool))) .n truth_2), (5, .val (.int .i64) .n r_3)]) rfl ?_
    refine tr_skip ?_
    refine tr_seq ?_
    refine tr_seq ?_
    refine tr_rg hP tabOk hsp fun A hA M hM => ?_
    cbv
    refine hM _ ?_
    refine tr_keep [0, 1, 17] (σ' := mkSl 35 0 [(0, .val (.list (.st [.int .i64, .int .i64, .int .i64])) .n h_1), (1, .val (.list (.list (.bool))) .n truth_2), (17, .val (.bool) .n ((truth_2.length : Int) != (6 : Int)))]) (by subst hA; rfl) ?_
    clear hM hA M A
    refine tr_cond rfl (fun hc => ?_) (fun hc => ?_)
    · replace H := if_t H hc
      refine tr_keep [0, 1] (σ' := mkSl 35 0 [(0, .val (.list (.st [.int .i64, .int .i64, .int .i64])) .n h_1), (1, .val (.list (.list (.bool))) .n truth_2)]) rfl ?_
      refine tr_seq ?_
      refine tr_rg hP tabOk hsp fun A hA M hM => ?_
      cbv
      refine hM _ ?_
      refine tr_ret ?_
      have hr := Option.some.inj H
      subst hr
      subst hA
      exact rfl
    · replace H := if_f H hc
      refine tr_keep [0, 1] (σ' := mkSl 35 0 [(0, .val (.list (.st [.int .i64, .int .i64, .int .i64])) .n h_1), (1, .val (.list (.list (.bool))) .n truth_2)]) rfl ?_
      refine tr_skip ?_
      refine tr_seq ?_
      refine tr_rg hP tabOk hsp fun A hA M hM => ?_
      cbv
      obtain ⟨r_4, hr1, H⟩ := bind_out H
      obtain ⟨pq1, eq1⟩ := hc42 hr1
      refine ⟨by subst hA; subst eq1; exact pq1, hM _ ?_⟩
      refine tr_seq ?_
      refine tr_seq ?_
      refine tr_keep [1, 6] (σ' := mkSl 35 0 [(1, .val (.list (.list (.bool))) .n truth_2), (6, .val (.box (.arr 6 (.int .i64))) (.b .n) r_4)]) (by subst hA; subst eq1; rfl) ?_
      clear pq1 eq1 hr1 hM hA M A
      refine tr_rg hP tabOk hsp fun A hA M hM => ?_
      cbv
      refine hM _ ?_
      refine tr_block ?_
      refine tr_keepL [6, 20, 21, 22] (fun t21_5 : Int => mkSl 35 0 [(6, .val (.box (.arr 6 (.int .i64))) (.b .n) r_4), (20, .val (.list (.list (.bool))) .n truth_2), (21, .val (.int .i64) .n t21_5), (22, .val (.int .i64) .n (0 : Int))]) H (by subst hA; rfl) (fun t21_5 H => ?_)
      clear hM hA M A
      obtain ⟨q, hq, Hl, Hr⟩ := bindE_out H
      refine tr_loopE 0 (fun x : Int => pred_Check_L1 truth_2 r_4 t21_5 x) (fun x : Int => mkSl 35 0 [(6, .val (.box (.arr 6 (.int .i64))) (.b .n) r_4), (20, .val (.list (.list (.bool))) .n truth_2), (21, .val (.int .i64) .n t21_5), (22, .val (.int .i64) .n x)]) [6, 20, 21, 22] (fun q_7 : Unit => mkSl 35 0 []) [] hq rfl Hr (fun q_7 hl σ' h => ?_) (fun x r1 H => ?_)
      · replace H := Hl q_7 hl
        refine tr_keep [] h ?_
        refine tr_seq ?_
        refine tr_rg hP tabOk hsp fun A hA M hM => ?_
        cbv
        refine hM _ ?_
        refine tr_ret ?_
        have hr := Option.some.inj H
        subst hr
        subst hA
        exact rfl
      · obtain ⟨t22_6, rfl⟩ : ∃ v, v = x := ⟨x, rfl⟩
        replace H : pred_Check_L1 truth_2 r_4 t21_5 t22_6 = some r1 := H
        unfold pred_Check_L1 at H
        refine tr_seq ?_
        refine tr_rg hP tabOk hsp fun A hA M hM => ?_
        cbv
        refine hM _ ?_
        refine tr_seq ?_
        refine tr_keep [6, 20, 21, 22, 23] (σ' := mkSl 35 0 [(6, .val (.box (.arr 6 (.int .i64))) (.b .n) r_4), (20, .val (.list (.list (.bool))) .n truth_2), (21, .val (.int .i64) .n t21_5), (22, .val (.int .i64) .n t22_6), (23, .val (.bool) .n (decide (t22_6 < t21_5)))]) (by subst hA; rfl) ?_
        clear hM hA M A
        refine tr_cond rfl (fun hc => ?_) (fun hc => ?_)
        · replace H := if_t H hc
          refine tr_keep [6, 20, 21, 22] (σ' := mkSl 35 0 [(6, .val (.box (.arr 6 (.int .i64))) (.b .n) r_4), (20, .val (.list (.list (.bool))) .n truth_2), (21, .val (.int .i64) .n t21_5), (22, .val (.int .i64) .n t22_6)]) rfl ?_
          refine tr_skip ?_
          refine tr_seq ?_
          refine tr_block ?_
          refine tr_seq ?_
          refine tr_rg hP tabOk hsp fun A hA M hM => ?_
          cbv
          obtain ⟨ob1, H⟩ := ck_out H
          refine ⟨by subst hA; exact ob1, hM _ ?_⟩
          refine tr_seq ?_
          refine tr_keepL [6, 7, 8, 20, 21, 22] (fun l_8 : List Bool => mkSl 35 0 [(6, .val (.box (.arr 6 (.int .i64))) (.b .n) r_4), (7, .val (.int .i64) .n t22_6), (8, .val (.list (.bool)) .n l_8), (20, .val (.list (.list (.bool))) .n truth_2), (21, .val (.int .i64) .n t21_5), (22, .val (.int .i64) .n t22_6)]) H (by subst hA; rfl) (fun l_8 H => ?_)
          clear ob1 hM hA M A
          refine tr_rg hP tabOk hsp fun A hA M hM => ?_
          cbv
          obtain ⟨ob1, H⟩ := ck_out H
          refine ⟨by subst hA; exact ob1, hM _ ?_⟩
          refine tr_keep [6, 8, 20, 21, 22, 33] (σ' := mkSl 35 0 [(6, .val (.box (.arr 6 (.int .i64))) (.b .n) r_4), (8, .val (.list (.bool)) .n l_8), (20, .val (.list (.list (.bool))) .n truth_2), (21, .val (.int .i64) .n t21_5), (22, .val (.int .i64) .n t22_6), (33, .val (.bool) .n ((l_8.length : Int) != (arR .add .i64 (r_4.getD t22_6.toNat (0 : Int)) (1 : Int))))]) (by subst hA; rfl) ?_
          clear ob1 hM hA M A
          refine tr_cond rfl (fun hc => ?_) (fun hc => ?_)
          · replace H := if_t H hc
            refine tr_keep [6, 8, 20, 21, 22] (σ' := mkSl 35 0 [(6, .val (.box (.arr 6 (.int .i64))) (.b .n) r_4), (8, .val (.list (.bool)) .n l_8), (20, .val (.list (.list (.bool))) .n truth_2), (21, .val (.int .i64) .n t21_5), (22, .val (.int .i64) .n t22_6)]) rfl ?_
            refine tr_seq ?_
            refine tr_rg hP tabOk hsp fun A hA M hM => ?_
            cbv
            refine hM _ ?_
            refine tr_ret ?_
            have hr := Option.some.inj H
            refine Exists.intro _ (And.intro hr.symm (fun hr => ?_))
            subst hr
            subst hA
            exact rfl
          · replace H := if_f H hc
            refine tr_keep [6, 8, 20, 21, 22] (σ' := mkSl 35 0 [(6, .val (.box (.arr 6 (.int .i64))) (.b .n) r_4), (8, .val (.list (.bool)) .n l_8), (20, .val (.list (.list (.bool))) .n truth_2), (21, .val (.int .i64) .n t21_5), (22, .val (.int .i64) .n t22_6)]) rfl ?_
            refine tr_skip ?_
            refine tr_rg hP tabOk hsp fun A hA M hM => ?_
            cbv
            refine hM _ ?_
            exact Exists.intro _ (And.intro (Option.some.inj H).symm (by subst hA; rfl))
        · replace H := if_f H hc
          refine tr_keep [6, 20, 21, 22] (σ' := mkSl 35 0 [(6, .val (.box (.arr 6 (.int .i64))) (.b .n) r_4), (20, .val (.list (.list (.bool))) .n truth_2), (21, .val (.int .i64) .n t21_5), (22, .val (.int .i64) .n t22_6)]) rfl ?_
          refine tr_exit ?_
          exact And.intro rfl (Exists.intro _ (And.intro (Option.some.inj H).symm (by rfl)))
theorem pred_Check_sp : ∃ (pg : PT.denL [.list (.st [.int .i64, .int .i64, .int .i64]), .list (.list (.bool))] → Prop) (fg : PT.denL [.list (.st [.int .i64, .int .i64, .int .i64]), .list (.list (.bool))] → PT.denL [.int .i64]), SpecRuns Try.prog 40 ⟨[.list (.st [.int .i64, .int .i64, .int .i64]), .list (.list (.bool))], [.v, .v], [.int .i64], [.n], pg, fg⟩ ∧ (∀ {a1 : List ((Int × Int × Int × Unit))} {a2 : List (List Bool)} {y : Int}, pred_Check a1 a2 = some y → pg (a1, a2, ()) ∧ y = (fg (a1, a2, ())).1) ∧ (∀ {a1 : List ((Int × Int × Int × Unit))} {a2 : List (List Bool)}, (pred_Check a1 a2).isSome = true → pg (a1, a2, ())) ∧ ∀ {a1 : List ((Int × Int × Int × Unit))} {a2 : List (List Bool)}, (pred_Check a1 a2).getD (0 : Int) = (fg (a1, a2, ())).1 := by
  obtain ⟨pg, fg, h, hc, hi, hd⟩ := spec_hide pred_Check_runs
  refine ⟨pg, fg, h, ?_, ?_, ?_⟩
  · intro a1 a2 y e
    obtain ⟨h1, h2⟩ := hc (a1, a2, ()) (y, ()) (congrArg (Option.map fun r => (r, ())) e)
    exact ⟨h1, by first | (rw [h2]; done) | (rw [h2]; rfl)⟩
  · intro a1 a2
    intro e
    exact hi (a1, a2, ()) (map_isSome e)
  · intro a1 a2
    rw [hd (a1, a2, ())]
    cases pred_Check a1 a2 <;> rfl
end Go.Proofs.Ytdahfpfkjljojaa.Ct
