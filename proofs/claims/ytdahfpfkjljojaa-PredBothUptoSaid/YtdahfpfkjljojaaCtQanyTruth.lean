/- Functions of the program as functions that may fail, and that the code computes them (printed). Each theorem bears its conditions itself. -/
import Derived.Test.YtdahfpfkjljojaaCtDefs
import Derived.Test.YtdahfpfkjljojaaCtTab
import Derived.Test.YtdahfpfkjljojaaCtQRQSizes
open Go Go.Proofs.Ytdahfpfkjljojaa.Sy Go.Proofs
set_option maxHeartbeats 4000000
set_option maxRecDepth 100000
set_option cbv.maxSteps 10000000
set_option linter.unusedVariables false
set_option linter.unusedSimpArgs false
namespace Go.Proofs.Ytdahfpfkjljojaa.Ct
theorem anyTruth_runs : SpecRuns Try.prog 30 (oSpec [.list (.st [.int .i64, .int .i64, .int .i64]), .arr 6 (.int .u64)] [.v, .v] [.list (.list (.bool))] [.l (.l .n)] fun x => (anyTruth x.1 x.2.1).map fun r => (r, ())) := by
  obtain ⟨pg27, fg27, hs27, hc27, hi27, hd27⟩ := R_Sizes_sp
  have hsp : SpecsOk Try.prog [(27, ⟨[.list (.st [.int .i64, .int .i64, .int .i64])], [.v], [.arr 6 (.int .i64)], [.n], pg27, fg27⟩)] := (specsOk_cons Try.func27 (by kernel_rfl) (by kernel_rfl) hs27 specsOk_nil)
  refine runs_of_o tabOk Try.func30 rfl (Nat.le_of_ble_eq_true rfl) rfl ?_
  rintro E ⟨(h_1 : List ((Int × Int × Int × Unit))), (of_2 : List Int), ⟨⟩⟩ y hP H hw
  obtain ⟨z, H1, rfl⟩ := map_out H
  replace H : anyTruth h_1 of_2 = some z := H1
  clear hw H1
  unfold anyTruth at H
  refine tr_keep [0, 1] (σ' := mkSl 38 0 [(0, .val (.list (.st [.int .i64, .int .i64, .int .i64])) .n h_1), (1, .val (.arr 6 (.int .u64)) .n of_2)]) rfl ?_
  refine tr_seq ?_
  refine tr_rg hP tabOk hsp fun A hA M hM => ?_
  cbv
  refine hM _ ?_
  refine tr_seq ?_
  refine tr_keep [0, 3, 4] (σ' := mkSl 38 0 [(0, .val (.list (.st [.int .i64, .int .i64, .int .i64])) .n h_1), (3, .val (.box (.arr 6 (.int .u64))) (.b .n) of_2), (4, .val (.list (.list (.bool))) (.l (.l .n)) ([] : List (List Bool)))]) (by subst hA; rfl) ?_
  clear hM hA M A
  refine tr_rg hP tabOk hsp fun A hA M hM => ?_
  cbv
  refine hM _ ?_
  refine tr_seq ?_
  refine tr_seq ?_
  refine tr_keep [0, 3, 4, 5] (σ' := mkSl 38 0 [(0, .val (.list (.st [.int .i64, .int .i64, .int .i64])) .n h_1), (3, .val (.box (.arr 6 (.int .u64))) (.b .n) of_2), (4, .val (.list (.list (.bool))) (.l (.l .n)) ([] : List (List Bool))), (5, .val (.list (.list (.bool))) (.l (.l .n)) ([] : List (List Bool)))]) (by subst hA; rfl) ?_
  clear hM hA M A
  refine tr_rg hP tabOk hsp fun A hA M hM => ?_
  cbv
  obtain ⟨r_3, hr1, H⟩ := bind_out H
  obtain ⟨pq1, eq1⟩ := hc27 hr1
  refine ⟨by subst hA; subst eq1; exact pq1, hM _ ?_⟩
  refine tr_block ?_
  refine tr_keep [3, 4, 5, 11, 12] (σ' := mkSl 38 0 [(3, .val (.box (.arr 6 (.int .u64))) (.b .n) of_2), (4, .val (.list (.list (.bool))) (.l (.l .n)) ([] : List (List Bool))), (5, .val (.list (.list (.bool))) (.l (.l .n)) ([] : List (List Bool))), (11, .val (.arr 6 (.int .i64)) .n r_3), (12, .val (.int .i64) .n (0 : Int))]) (by subst hA; subst eq1; rfl) ?_
  clear pq1 eq1 hr1 hM hA M A
  obtain ⟨q_7, hq, H⟩ := bind_out H
  refine tr_loopB 0 (fun x : List (List Bool) × Int => anyTruth_L1 of_2 r_3 x.1 x.2) (fun x : List (List Bool) × Int => mkSl 38 0 [(3, .val (.box (.arr 6 (.int .u64))) (.b .n) of_2), (4, .val (.list (.list (.bool))) (.l (.l .n)) ([] : List (List Bool))), (5, .val (.list (.list (.bool))) (.l (.l .n)) x.1), (11, .val (.arr 6 (.int .i64)) .n r_3), (12, .val (.int .i64) .n x.2)]) [3, 4, 5, 11, 12] (fun q_7 : List (List Bool) => mkSl 38 0 [(4, .val (.list (.list (.bool))) (.l (.l .n)) ([] : List (List Bool))), (5, .val (.list (.list (.bool))) (.l (.l .n)) q_7)]) [4, 5] hq rfl (fun σ' h => ?_) (fun x r1 H => ?_)
  · refine tr_keep [4, 5] h ?_
    refine tr_seq ?_
    refine tr_rg hP tabOk hsp fun A hA M hM => ?_
    cbv
    refine hM _ ?_
    refine tr_ret ?_
    have hr := Option.some.inj H
    subst hr
    subst hA
    exact rfl
  · obtain ⟨out_4, t12_5⟩ := x
    replace H : anyTruth_L1 of_2 r_3 out_4 t12_5 = some r1 := H
    unfold anyTruth_L1 at H
    refine tr_seq ?_
    refine tr_rg hP tabOk hsp fun A hA M hM => ?_
    cbv
    refine hM _ ?_
    refine tr_seq ?_
    refine tr_keep [3, 4, 5, 11, 12, 13] (σ' := mkSl 38 0 [(3, .val (.box (.arr 6 (.int .u64))) (.b .n) of_2), (4, .val (.list (.list (.bool))) (.l (.l .n)) ([] : List (List Bool))), (5, .val (.list (.list (.bool))) (.l (.l .n)) out_4), (11, .val (.arr 6 (.int .i64)) .n r_3), (12, .val (.int .i64) .n t12_5), (13, .val (.bool) .n (decide (t12_5 < (6 : Int))))]) (by subst hA; rfl) ?_
    clear hM hA M A
    refine tr_cond rfl (fun hc => ?_) (fun hc => ?_)
    · replace H := if_t H hc
      refine tr_keep [3, 4, 5, 11, 12] (σ' := mkSl 38 0 [(3, .val (.box (.arr 6 (.int .u64))) (.b .n) of_2), (4, .val (.list (.list (.bool))) (.l (.l .n)) ([] : List (List Bool))), (5, .val (.list (.list (.bool))) (.l (.l .n)) out_4), (11, .val (.arr 6 (.int .i64)) .n r_3), (12, .val (.int .i64) .n t12_5)]) rfl ?_
      refine tr_skip ?_
      refine tr_seq ?_
      refine tr_block ?_
      refine tr_seq ?_
      refine tr_rg hP tabOk hsp fun A hA M hM => ?_
      cbv
      obtain ⟨ob1, H⟩ := ck_out H
      refine ⟨by subst hA; exact ob1, hM _ ?_⟩
      refine tr_seq ?_
      refine tr_keepL [3, 4, 5, 6, 7, 11, 12] (fun n_8 : Int => mkSl 38 0 [(3, .val (.box (.arr 6 (.int .u64))) (.b .n) of_2), (4, .val (.list (.list (.bool))) (.l (.l .n)) ([] : List (List Bool))), (5, .val (.list (.list (.bool))) (.l (.l .n)) out_4), (6, .val (.int .i64) .n t12_5), (7, .val (.int .i64) .n n_8), (11, .val (.arr 6 (.int .i64)) .n r_3), (12, .val (.int .i64) .n t12_5)]) H (by subst hA; rfl) (fun n_8 H => ?_)
      clear ob1 hM hA M A
      refine tr_rg hP tabOk hsp fun A hA M hM => ?_
      cbv
      refine hM _ ?_
      refine tr_seq ?_
      refine tr_seq ?_
      refine tr_keep [3, 4, 5, 6, 7, 8, 11, 12] (σ' := mkSl 38 0 [(3, .val (.box (.arr 6 (.int .u64))) (.b .n) of_2), (4, .val (.list (.list (.bool))) (.l (.l .n)) ([] : List (List Bool))), (5, .val (.list (.list (.bool))) (.l (.l .n)) out_4), (6, .val (.int .i64) .n t12_5), (7, .val (.int .i64) .n n_8), (8, .val (.list (.bool)) (.l .n) ([] : List Bool)), (11, .val (.arr 6 (.int .i64)) .n r_3), (12, .val (.int .i64) .n t12_5)]) (by subst hA; rfl) ?_
      clear hM hA M A
      refine tr_rg hP tabOk hsp fun A hA M hM => ?_
      cbv
      refine hM _ ?_
      refine tr_block ?_
      refine tr_keepL [3, 4, 5, 6, 8, 11, 12, 17, 18] (fun t17_9 : Int => mkSl 38 0 [(3, .val (.box (.arr 6 (.int .u64))) (.b .n) of_2), (4, .val (.list (.list (.bool))) (.l (.l .n)) ([] : List (List Bool))), (5, .val (.list (.list (.bool))) (.l (.l .n)) out_4), (6, .val (.int .i64) .n t12_5), (8, .val (.list (.bool)) (.l .n) ([] : List Bool)), (11, .val (.arr 6 (.int .i64)) .n r_3), (12, .val (.int .i64) .n t12_5), (17, .val (.int .i64) .n t17_9), (18, .val (.int .i64) .n (0 : Int))]) H (by subst hA; rfl) (fun t17_9 H => ?_)
      clear hM hA M A
      obtain ⟨q_13, hq, H⟩ := bind_out H
      refine tr_loopB 2 (fun x : List Bool × Int => anyTruth_L2 of_2 t12_5 t17_9 x.1 x.2) (fun x : List Bool × Int => mkSl 38 0 [(3, .val (.box (.arr 6 (.int .u64))) (.b .n) of_2), (4, .val (.list (.list (.bool))) (.l (.l .n)) ([] : List (List Bool))), (5, .val (.list (.list (.bool))) (.l (.l .n)) out_4), (6, .val (.int .i64) .n t12_5), (8, .val (.list (.bool)) (.l .n) x.1), (11, .val (.arr 6 (.int .i64)) .n r_3), (12, .val (.int .i64) .n t12_5), (17, .val (.int .i64) .n t17_9), (18, .val (.int .i64) .n x.2)]) [3, 4, 5, 6, 8, 11, 12, 17, 18] (fun q_13 : List Bool => mkSl 38 0 [(3, .val (.box (.arr 6 (.int .u64))) (.b .n) of_2), (4, .val (.list (.list (.bool))) (.l (.l .n)) ([] : List (List Bool))), (5, .val (.list (.list (.bool))) (.l (.l .n)) out_4), (8, .val (.list (.bool)) (.l .n) q_13), (11, .val (.arr 6 (.int .i64)) .n r_3), (12, .val (.int .i64) .n t12_5)]) [3, 4, 5, 8, 11, 12] hq rfl (fun σ' h => ?_) (fun x r2 H => ?_)
      · refine tr_keep [3, 4, 5, 8, 11, 12] h ?_
        refine tr_rg hP tabOk hsp fun A hA M hM => ?_
        cbv
        obtain ⟨ob1, H⟩ := ck_out H
        refine ⟨by subst hA; exact ob1, hM _ ?_⟩
        refine tr_keepL [3, 4, 5, 11, 12] (fun out_15 : List (List Bool) => mkSl 38 0 [(3, .val (.box (.arr 6 (.int .u64))) (.b .n) of_2), (4, .val (.list (.list (.bool))) (.l (.l .n)) ([] : List (List Bool))), (5, .val (.list (.list (.bool))) (.l (.l .n)) out_15), (11, .val (.arr 6 (.int .i64)) .n r_3), (12, .val (.int .i64) .n t12_5)]) H (by subst hA; rfl) (fun out_15 H => ?_)
        clear ob1 hM hA M A
        refine tr_rg hP tabOk hsp fun A hA M hM => ?_
        cbv
        refine hM _ ?_
        exact Exists.intro _ (And.intro (Option.some.inj H).symm (by subst hA; rfl))
      · obtain ⟨l_10, t18_11⟩ := x
        replace H : anyTruth_L2 of_2 t12_5 t17_9 l_10 t18_11 = some r2 := H
        unfold anyTruth_L2 at H
        refine tr_seq ?_
        refine tr_rg hP tabOk hsp fun A hA M hM => ?_
        cbv
        refine hM _ ?_
        refine tr_seq ?_
        refine tr_keep [3, 4, 5, 6, 8, 11, 12, 17, 18, 19] (σ' := mkSl 38 0 [(3, .val (.box (.arr 6 (.int .u64))) (.b .n) of_2), (4, .val (.list (.list (.bool))) (.l (.l .n)) ([] : List (List Bool))), (5, .val (.list (.list (.bool))) (.l (.l .n)) out_4), (6, .val (.int .i64) .n t12_5), (8, .val (.list (.bool)) (.l .n) l_10), (11, .val (.arr 6 (.int .i64)) .n r_3), (12, .val (.int .i64) .n t12_5), (17, .val (.int .i64) .n t17_9), (18, .val (.int .i64) .n t18_11), (19, .val (.bool) .n (decide (t18_11 < t17_9)))]) (by subst hA; rfl) ?_
        clear hM hA M A
        refine tr_cond rfl (fun hc => ?_) (fun hc => ?_)
        · replace H := if_t H hc
          refine tr_keep [3, 4, 5, 6, 8, 11, 12, 17, 18] (σ' := mkSl 38 0 [(3, .val (.box (.arr 6 (.int .u64))) (.b .n) of_2), (4, .val (.list (.list (.bool))) (.l (.l .n)) ([] : List (List Bool))), (5, .val (.list (.list (.bool))) (.l (.l .n)) out_4), (6, .val (.int .i64) .n t12_5), (8, .val (.list (.bool)) (.l .n) l_10), (11, .val (.arr 6 (.int .i64)) .n r_3), (12, .val (.int .i64) .n t12_5), (17, .val (.int .i64) .n t17_9), (18, .val (.int .i64) .n t18_11)]) rfl ?_
          refine tr_skip ?_
          refine tr_seq ?_
          refine tr_block ?_
          refine tr_seq ?_
          refine tr_rg hP tabOk hsp fun A hA M hM => ?_
          cbv
          refine hM _ ?_
          refine tr_keep [3, 4, 5, 6, 8, 9, 11, 12, 17, 18] (σ' := mkSl 38 0 [(3, .val (.box (.arr 6 (.int .u64))) (.b .n) of_2), (4, .val (.list (.list (.bool))) (.l (.l .n)) ([] : List (List Bool))), (5, .val (.list (.list (.bool))) (.l (.l .n)) out_4), (6, .val (.int .i64) .n t12_5), (8, .val (.list (.bool)) (.l .n) l_10), (9, .val (.int .i64) .n t18_11), (11, .val (.arr 6 (.int .i64)) .n r_3), (12, .val (.int .i64) .n t12_5), (17, .val (.int .i64) .n t17_9), (18, .val (.int .i64) .n t18_11)]) (by subst hA; rfl) ?_
          clear hM hA M A
          refine tr_rg hP tabOk hsp fun A hA M hM => ?_
          cbv
          obtain ⟨ob1, H⟩ := ck_out H
          obtain ⟨ob2, H⟩ := ck_out H
          obtain ⟨ob3, H⟩ := ck_out H
          refine ⟨by subst hA; exact ob1, by subst hA; exact ob2, by subst hA; exact ob3, hM _ ?_⟩
          refine tr_keepL [3, 4, 5, 6, 8, 11, 12, 17, 18] (fun l_14 : List Bool => mkSl 38 0 [(3, .val (.box (.arr 6 (.int .u64))) (.b .n) of_2), (4, .val (.list (.list (.bool))) (.l (.l .n)) ([] : List (List Bool))), (5, .val (.list (.list (.bool))) (.l (.l .n)) out_4), (6, .val (.int .i64) .n t12_5), (8, .val (.list (.bool)) (.l .n) l_14), (11, .val (.arr 6 (.int .i64)) .n r_3), (12, .val (.int .i64) .n t12_5), (17, .val (.int .i64) .n t17_9), (18, .val (.int .i64) .n t18_11)]) H (by subst hA; rfl) (fun l_14 H => ?_)
          clear ob3 ob2 ob1 hM hA M A
          refine tr_rg hP tabOk hsp fun A hA M hM => ?_
          cbv
          refine hM _ ?_
          exact Exists.intro _ (And.intro (Option.some.inj H).symm (by subst hA; rfl))
        · replace H := if_f H hc
          refine tr_keep [3, 4, 5, 6, 8, 11, 12, 17, 18] (σ' := mkSl 38 0 [(3, .val (.box (.arr 6 (.int .u64))) (.b .n) of_2), (4, .val (.list (.list (.bool))) (.l (.l .n)) ([] : List (List Bool))), (5, .val (.list (.list (.bool))) (.l (.l .n)) out_4), (6, .val (.int .i64) .n t12_5), (8, .val (.list (.bool)) (.l .n) l_10), (11, .val (.arr 6 (.int .i64)) .n r_3), (12, .val (.int .i64) .n t12_5), (17, .val (.int .i64) .n t17_9), (18, .val (.int .i64) .n t18_11)]) rfl ?_
          refine tr_exit ?_
          exact And.intro rfl (Exists.intro _ (And.intro (Option.some.inj H).symm (by rfl)))
    · replace H := if_f H hc
      refine tr_keep [3, 4, 5, 11, 12] (σ' := mkSl 38 0 [(3, .val (.box (.arr 6 (.int .u64))) (.b .n) of_2), (4, .val (.list (.list (.bool))) (.l (.l .n)) ([] : List (List Bool))), (5, .val (.list (.list (.bool))) (.l (.l .n)) out_4), (11, .val (.arr 6 (.int .i64)) .n r_3), (12, .val (.int .i64) .n t12_5)]) rfl ?_
      refine tr_exit ?_
      exact And.intro rfl (Exists.intro _ (And.intro (Option.some.inj H).symm (by rfl)))
theorem anyTruth_sp : ∃ (pg : PT.denL [.list (.st [.int .i64, .int .i64, .int .i64]), .arr 6 (.int .u64)] → Prop) (fg : PT.denL [.list (.st [.int .i64, .int .i64, .int .i64]), .arr 6 (.int .u64)] → PT.denL [.list (.list (.bool))]), SpecRuns Try.prog 30 ⟨[.list (.st [.int .i64, .int .i64, .int .i64]), .arr 6 (.int .u64)], [.v, .v], [.list (.list (.bool))], [.l (.l .n)], pg, fg⟩ ∧ (∀ {a1 : List ((Int × Int × Int × Unit))} {a2 : List Int} {y : List (List Bool)}, anyTruth a1 a2 = some y → pg (a1, a2, ()) ∧ y = (fg (a1, a2, ())).1) ∧ (∀ {a1 : List ((Int × Int × Int × Unit))} {a2 : List Int}, (anyTruth a1 a2).isSome = true → pg (a1, a2, ())) ∧ ∀ {a1 : List ((Int × Int × Int × Unit))} {a2 : List Int}, (anyTruth a1 a2).getD ([] : List (List Bool)) = (fg (a1, a2, ())).1 := by
  obtain ⟨pg, fg, h, hc, hi, hd⟩ := spec_hide anyTruth_runs
  refine ⟨pg, fg, h, ?_, ?_, ?_⟩
  · intro a1 a2 y e
    obtain ⟨h1, h2⟩ := hc (a1, a2, ()) (y, ()) (congrArg (Option.map fun r => (r, ())) e)
    exact ⟨h1, by first | (rw [h2]; done) | (rw [h2]; rfl)⟩
  · intro a1 a2
    intro e
    exact hi (a1, a2, ()) (map_isSome e)
  · intro a1 a2
    rw [hd (a1, a2, ())]
    cases anyTruth a1 a2 <;> rfl
end Go.Proofs.Ytdahfpfkjljojaa.Ct
