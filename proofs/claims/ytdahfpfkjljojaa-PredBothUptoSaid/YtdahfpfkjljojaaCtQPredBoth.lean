/- Functions of the program as functions that may fail, and that the code computes them (printed). Each theorem bears its conditions itself. -/
import Derived.Test.YtdahfpfkjljojaaCtDefs
import Derived.Test.YtdahfpfkjljojaaCtTab
import Derived.Test.YtdahfpfkjljojaaCtQlate
import Derived.Test.YtdahfpfkjljojaaCtQpredQMust
import Derived.Test.YtdahfpfkjljojaaCtQsent
import Derived.Test.YtdahfpfkjljojaaCtQstampQCheck
import Derived.Test.YtdahfpfkjljojaaCtQanyTruth
import Derived.Test.YtdahfpfkjljojaaCtQpredQFirst
import Derived.Test.YtdahfpfkjljojaaCtQRQSo
import Derived.Test.YtdahfpfkjljojaaCtQRQSizes
open Go Go.Proofs.Ytdahfpfkjljojaa.Sy Go.Proofs
set_option maxHeartbeats 4000000
set_option maxRecDepth 100000
set_option cbv.maxSteps 10000000
set_option linter.unusedVariables false
set_option linter.unusedSimpArgs false
namespace Go.Proofs.Ytdahfpfkjljojaa.Ct
theorem PredBoth_runs : SpecRuns Try.prog 10 (oSpec [.list (.st [.int .i64, .int .i64, .int .i64]), .arr 6 (.int .u64)] [.v, .v] [.bool] [.n] fun x => (PredBoth x.1 x.2.1).map fun r => (r, ())) := by
  obtain ⟨pg29, fg29, hs29, hc29, hi29, hd29⟩ := late_sp
  obtain ⟨pg32, fg32, hs32, hc32, hi32, hd32⟩ := pred_Must_sp
  obtain ⟨pg13, fg13, hs13, hc13, hi13, hd13⟩ := sent_sp
  obtain ⟨pg14, fg14, hs14, hc14, hi14, hd14⟩ := stamp_Check_sp
  obtain ⟨pg30, fg30, hs30, hc30, hi30, hd30⟩ := anyTruth_sp
  obtain ⟨pg28, fg28, hs28, hc28, hi28, hd28⟩ := pred_First_sp
  obtain ⟨pg31, fg31, hs31, hc31, hi31, hd31⟩ := R_So_sp
  obtain ⟨pg27, fg27, hs27, hc27, hi27, hd27⟩ := R_Sizes_sp
  have hsp : SpecsOk Try.prog [(29, ⟨[.list (.st [.int .i64, .int .i64, .int .i64])], [.v], [.list (.list (.bool))], [.l (.l .n)], pg29, fg29⟩), (32, ⟨[.list (.st [.int .i64, .int .i64, .int .i64]), .list (.list (.bool))], [.v, .v], [.bool, .int .i64], [.n, .n], pg32, fg32⟩), (13, ⟨[], [], [.list (.st [.int .i64, .int .i64, .int .i64])], [.l .n], pg13, fg13⟩), (14, ⟨[.list (.st [.int .i64, .int .i64, .int .i64])], [.v], [.int .i64], [.n], pg14, fg14⟩), (30, ⟨[.list (.st [.int .i64, .int .i64, .int .i64]), .arr 6 (.int .u64)], [.v, .v], [.list (.list (.bool))], [.l (.l .n)], pg30, fg30⟩), (28, ⟨[.list (.st [.int .i64, .int .i64, .int .i64]), .list (.list (.bool))], [.v, .v], [.arr 6 (.int .i64), .int .i64], [.n, .n], pg28, fg28⟩), (31, ⟨[.list (.list (.bool)), .arr 6 (.int .i64)], [.v, .v], [.bool], [.n], pg31, fg31⟩), (27, ⟨[.list (.st [.int .i64, .int .i64, .int .i64])], [.v], [.arr 6 (.int .i64)], [.n], pg27, fg27⟩)] := (specsOk_cons Try.func29 (by kernel_rfl) (by kernel_rfl) hs29 (specsOk_cons Try.func32 (by kernel_rfl) (by kernel_rfl) hs32 (specsOk_cons Try.func13 (by kernel_rfl) (by kernel_rfl) hs13 (specsOk_cons Try.func14 (by kernel_rfl) (by kernel_rfl) hs14 (specsOk_cons Try.func30 (by kernel_rfl) (by kernel_rfl) hs30 (specsOk_cons Try.func28 (by kernel_rfl) (by kernel_rfl) hs28 (specsOk_cons Try.func31 (by kernel_rfl) (by kernel_rfl) hs31 (specsOk_cons Try.func27 (by kernel_rfl) (by kernel_rfl) hs27 specsOk_nil))))))))
  refine runs_of_o tabOk Try.func10 rfl (Nat.le_of_ble_eq_true rfl) rfl ?_
  rintro E ⟨(t0_1 : List ((Int × Int × Int × Unit))), (t1_2 : List Int), ⟨⟩⟩ y hP H hw
  obtain ⟨z, H1, rfl⟩ := map_out H
  replace H : PredBoth t0_1 t1_2 = some z := H1
  clear hw H1
  unfold PredBoth at H
  refine tr_keep [0, 1] (σ' := mkSl 82 0 [(0, .val (.list (.st [.int .i64, .int .i64, .int .i64])) .n t0_1), (1, .val (.arr 6 (.int .u64)) .n t1_2)]) rfl ?_
  refine tr_seq ?_
  refine tr_rg hP tabOk hsp fun A hA M hM => ?_
  cbv
  refine hM _ ?_
  refine tr_seq ?_
  refine tr_seq ?_
  refine tr_keep [0, 3] (σ' := mkSl 82 0 [(0, .val (.list (.st [.int .i64, .int .i64, .int .i64])) .n t0_1), (3, .val (.box (.arr 6 (.int .u64))) (.b .n) t1_2)]) (by subst hA; rfl) ?_
  clear hM hA M A
  refine tr_rg hP tabOk hsp fun A hA M hM => ?_
  cbv
  obtain ⟨r_3, hr1, H⟩ := bind_out H
  obtain ⟨pq1, eq1⟩ := hc29 hr1
  obtain ⟨r_4, hr2, H⟩ := bind_out H
  obtain ⟨pq2, eq2⟩ := hc32 hr2
  refine ⟨by subst hA; subst eq1; exact pq1, by subst hA; subst eq1; subst eq2; exact pq2, hM _ ?_⟩
  refine tr_seq ?_
  refine tr_keep [0, 3, 5, 6] (σ' := mkSl 82 0 [(0, .val (.list (.st [.int .i64, .int .i64, .int .i64])) .n t0_1), (3, .val (.box (.arr 6 (.int .u64))) (.b .n) t1_2), (5, .val (.bool) .n r_4.1), (6, .val (.int .i64) .n r_4.2)]) (by subst hA; subst eq1; subst eq2; rfl) ?_
  clear pq2 eq2 hr2 pq1 eq1 hr1 hM hA M A
  refine tr_rg hP tabOk hsp fun A hA M hM => ?_
  cbv
  refine hM _ ?_
  refine tr_keep [0, 3, 24] (σ' := mkSl 82 0 [(0, .val (.list (.st [.int .i64, .int .i64, .int .i64])) .n t0_1), (3, .val (.box (.arr 6 (.int .u64))) (.b .n) t1_2), (24, .val (.bool) .n ((r_4.2 != (0 : Int)) || r_4.1))]) (by subst hA; rfl) ?_
  clear hM hA M A
  refine tr_cond rfl (fun hc => ?_) (fun hc => ?_)
  · replace H := if_t H hc
    refine tr_keep [0, 3] (σ' := mkSl 82 0 [(0, .val (.list (.st [.int .i64, .int .i64, .int .i64])) .n t0_1), (3, .val (.box (.arr 6 (.int .u64))) (.b .n) t1_2)]) rfl ?_
    refine tr_seq ?_
    refine tr_rg hP tabOk hsp fun A hA M hM => ?_
    cbv
    refine hM _ ?_
    refine tr_ret ?_
    have hr := Option.some.inj H
    subst hr
    subst hA
    exact rfl
  · replace H := if_f H hc
    refine tr_keep [0, 3] (σ' := mkSl 82 0 [(0, .val (.list (.st [.int .i64, .int .i64, .int .i64])) .n t0_1), (3, .val (.box (.arr 6 (.int .u64))) (.b .n) t1_2)]) rfl ?_
    refine tr_skip ?_
    refine tr_seq ?_
    refine tr_seq ?_
    refine tr_rg hP tabOk hsp fun A hA M hM => ?_
    cbv
    obtain ⟨r_5, hr1, H⟩ := bind_out H
    obtain ⟨pq1, eq1⟩ := hc13 hr1
    obtain ⟨r_6, hr2, H⟩ := bind_out H
    obtain ⟨pq2, eq2⟩ := hc13 hr2
    obtain ⟨r_7, hr3, H⟩ := bind_out H
    obtain ⟨pq3, eq3⟩ := hc29 hr3
    obtain ⟨r_8, hr4, H⟩ := bind_out H
    obtain ⟨pq4, eq4⟩ := hc32 hr4
    refine ⟨by subst hA; subst eq1; exact pq1, by subst hA; subst eq1; subst eq2; exact pq2, by subst hA; subst eq1; subst eq2; subst eq3; exact pq3, by subst hA; subst eq1; subst eq2; subst eq3; subst eq4; exact pq4, hM _ ?_⟩
    refine tr_seq ?_
    refine tr_keep [0, 3, 7, 8] (σ' := mkSl 82 0 [(0, .val (.list (.st [.int .i64, .int .i64, .int .i64])) .n t0_1), (3, .val (.box (.arr 6 (.int .u64))) (.b .n) t1_2), (7, .val (.bool) .n r_8.1), (8, .val (.int .i64) .n r_8.2)]) (by subst hA; subst eq1; subst eq2; subst eq3; subst eq4; rfl) ?_
    clear pq4 eq4 hr4 pq3 eq3 hr3 pq2 eq2 hr2 pq1 eq1 hr1 hM hA M A
    refine tr_rg hP tabOk hsp fun A hA M hM => ?_
    cbv
    refine hM _ ?_
    refine tr_keep [0, 3, 37] (σ' := mkSl 82 0 [(0, .val (.list (.st [.int .i64, .int .i64, .int .i64])) .n t0_1), (3, .val (.box (.arr 6 (.int .u64))) (.b .n) t1_2), (37, .val (.bool) .n ((r_8.2 != (0 : Int)) || (!r_8.1)))]) (by subst hA; rfl) ?_
    clear hM hA M A
    refine tr_cond rfl (fun hc => ?_) (fun hc => ?_)
    · replace H := if_t H hc
      refine tr_keep [0, 3] (σ' := mkSl 82 0 [(0, .val (.list (.st [.int .i64, .int .i64, .int .i64])) .n t0_1), (3, .val (.box (.arr 6 (.int .u64))) (.b .n) t1_2)]) rfl ?_
      refine tr_seq ?_
      refine tr_rg hP tabOk hsp fun A hA M hM => ?_
      cbv
      refine hM _ ?_
      refine tr_ret ?_
      have hr := Option.some.inj H
      subst hr
      subst hA
      exact rfl
    · replace H := if_f H hc
      refine tr_keep [0, 3] (σ' := mkSl 82 0 [(0, .val (.list (.st [.int .i64, .int .i64, .int .i64])) .n t0_1), (3, .val (.box (.arr 6 (.int .u64))) (.b .n) t1_2)]) rfl ?_
      refine tr_skip ?_
      refine tr_seq ?_
      refine tr_seq ?_
      refine tr_rg hP tabOk hsp fun A hA M hM => ?_
      cbv
      obtain ⟨r_9, hr1, H⟩ := bind_out H
      obtain ⟨pq1, eq1⟩ := hc14 hr1
      refine ⟨by subst hA; subst eq1; exact pq1, hM _ ?_⟩
      refine tr_keep [0, 3, 40] (σ' := mkSl 82 0 [(0, .val (.list (.st [.int .i64, .int .i64, .int .i64])) .n t0_1), (3, .val (.box (.arr 6 (.int .u64))) (.b .n) t1_2), (40, .val (.bool) .n (r_9 != (0 : Int)))]) (by subst hA; subst eq1; rfl) ?_
      clear pq1 eq1 hr1 hM hA M A
      refine tr_cond rfl (fun hc => ?_) (fun hc => ?_)
      · replace H := if_t H hc
        refine tr_keep [0, 3] (σ' := mkSl 82 0 [(0, .val (.list (.st [.int .i64, .int .i64, .int .i64])) .n t0_1), (3, .val (.box (.arr 6 (.int .u64))) (.b .n) t1_2)]) rfl ?_
        refine tr_seq ?_
        refine tr_rg hP tabOk hsp fun A hA M hM => ?_
        cbv
        refine hM _ ?_
        refine tr_ret ?_
        have hr := Option.some.inj H
        subst hr
        subst hA
        exact rfl
      · replace H := if_f H hc
        refine tr_keep [0, 3] (σ' := mkSl 82 0 [(0, .val (.list (.st [.int .i64, .int .i64, .int .i64])) .n t0_1), (3, .val (.box (.arr 6 (.int .u64))) (.b .n) t1_2)]) rfl ?_
        refine tr_skip ?_
        refine tr_seq ?_
        refine tr_rg hP tabOk hsp fun A hA M hM => ?_
        cbv
        obtain ⟨r_10, hr1, H⟩ := bind_out H
        obtain ⟨pq1, eq1⟩ := hc30 hr1
        refine ⟨by subst hA; subst eq1; exact pq1, hM _ ?_⟩
        refine tr_seq ?_
        refine tr_keep [0, 9] (σ' := mkSl 82 0 [(0, .val (.list (.st [.int .i64, .int .i64, .int .i64])) .n t0_1), (9, .val (.list (.list (.bool))) (.l (.l .n)) r_10)]) (by subst hA; subst eq1; rfl) ?_
        clear pq1 eq1 hr1 hM hA M A
        refine tr_rg hP tabOk hsp fun A hA M hM => ?_
        cbv
        obtain ⟨r_11, hr1, H⟩ := bind_out H
        obtain ⟨pq1, eq1⟩ := hc28 hr1
        refine ⟨by subst hA; subst eq1; exact pq1, hM _ ?_⟩
        refine tr_seq ?_
        refine tr_keep [0, 9, 11] (σ' := mkSl 82 0 [(0, .val (.list (.st [.int .i64, .int .i64, .int .i64])) .n t0_1), (9, .val (.list (.list (.bool))) (.l (.l .n)) r_10), (11, .val (.int .i64) .n r_11.2)]) (by subst hA; subst eq1; rfl) ?_
        clear pq1 eq1 hr1 hM hA M A
        refine tr_rg hP tabOk hsp fun A hA M hM => ?_
        cbv
        obtain ⟨r_12, hr1, H⟩ := bind_out H
        obtain ⟨pq1, eq1⟩ := hc32 hr1
        refine ⟨by subst hA; subst eq1; exact pq1, hM _ ?_⟩
        refine tr_seq ?_
        refine tr_seq ?_
        refine tr_keep [0, 9, 11, 12, 13] (σ' := mkSl 82 0 [(0, .val (.list (.st [.int .i64, .int .i64, .int .i64])) .n t0_1), (9, .val (.list (.list (.bool))) (.l (.l .n)) r_10), (11, .val (.int .i64) .n r_11.2), (12, .val (.bool) .n r_12.1), (13, .val (.int .i64) .n r_12.2)]) (by subst hA; subst eq1; rfl) ?_
        clear pq1 eq1 hr1 hM hA M A
        refine tr_rg hP tabOk hsp fun A hA M hM => ?_
        cbv
        refine hM _ ?_
        refine tr_keep [0, 9, 11, 12, 13, 57] (σ' := mkSl 82 0 [(0, .val (.list (.st [.int .i64, .int .i64, .int .i64])) .n t0_1), (9, .val (.list (.list (.bool))) (.l (.l .n)) r_10), (11, .val (.int .i64) .n r_11.2), (12, .val (.bool) .n r_12.1), (13, .val (.int .i64) .n r_12.2), (57, .val (.bool) .n (r_12.2 != (0 : Int)))]) (by subst hA; rfl) ?_
        clear hM hA M A
        refine tr_cond rfl (fun hc => ?_) (fun hc => ?_)
        · replace H := if_t H hc
          refine tr_keep [0, 9, 11, 12, 13] (σ' := mkSl 82 0 [(0, .val (.list (.st [.int .i64, .int .i64, .int .i64])) .n t0_1), (9, .val (.list (.list (.bool))) (.l (.l .n)) r_10), (11, .val (.int .i64) .n r_11.2), (12, .val (.bool) .n r_12.1), (13, .val (.int .i64) .n r_12.2)]) rfl ?_
          refine tr_seq ?_
          refine tr_rg hP tabOk hsp fun A hA M hM => ?_
          cbv
          refine hM _ ?_
          refine tr_ret ?_
          have hr := Option.some.inj H
          subst hr
          subst hA
          exact rfl
        · replace H := if_f H hc
          refine tr_keep [0, 9, 11, 12, 13] (σ' := mkSl 82 0 [(0, .val (.list (.st [.int .i64, .int .i64, .int .i64])) .n t0_1), (9, .val (.list (.list (.bool))) (.l (.l .n)) r_10), (11, .val (.int .i64) .n r_11.2), (12, .val (.bool) .n r_12.1), (13, .val (.int .i64) .n r_12.2)]) rfl ?_
          refine tr_skip ?_
          refine tr_seq ?_
          refine tr_rg hP tabOk hsp fun A hA M hM => ?_
          cbv
          obtain ⟨r_13, hr1, H⟩ := bind_out H
          obtain ⟨pq1, eq1⟩ := hc31 hr1
          obtain ⟨r_14, er2, H⟩ := letO_out H
          obtain ⟨ob2, H⟩ := ck_out H
          have eq2 := er2.trans hd27
          obtain ⟨r_15, er3, H⟩ := letO_out H
          obtain ⟨ob3, H⟩ := ck_out H
          have eq3 := er3.trans hd31
          refine ⟨by subst hA; subst eq1; exact pq1, by subst hA; subst eq1; subst eq2; exact fun h0 => hi27 (ob2 h0), by subst hA; subst eq1; subst eq2; subst eq3; exact fun h0 => hi31 (ob3 h0), hM _ ?_⟩
          refine tr_seq ?_
          refine tr_keepL [11, 12, 14] (fun t14_16 : Bool => mkSl 82 0 [(11, .val (.int .i64) .n r_11.2), (12, .val (.bool) .n r_12.1), (14, .val (.bool) .n t14_16)]) H (by subst hA; subst eq1; subst eq2; subst eq3; rfl) (fun t14_16 H => ?_)
          clear ob3 eq3 er3 ob2 eq2 er2 pq1 eq1 hr1 hM hA M A
          refine tr_rg hP tabOk hsp fun A hA M hM => ?_
          cbv
          refine hM _ ?_
          refine tr_ret ?_
          have hr := Option.some.inj H
          subst hr
          subst hA
          exact rfl
theorem PredBoth_sp : ∃ (pg : PT.denL [.list (.st [.int .i64, .int .i64, .int .i64]), .arr 6 (.int .u64)] → Prop) (fg : PT.denL [.list (.st [.int .i64, .int .i64, .int .i64]), .arr 6 (.int .u64)] → PT.denL [.bool]), SpecRuns Try.prog 10 ⟨[.list (.st [.int .i64, .int .i64, .int .i64]), .arr 6 (.int .u64)], [.v, .v], [.bool], [.n], pg, fg⟩ ∧ (∀ {a1 : List ((Int × Int × Int × Unit))} {a2 : List Int} {y : Bool}, PredBoth a1 a2 = some y → pg (a1, a2, ()) ∧ y = (fg (a1, a2, ())).1) ∧ (∀ {a1 : List ((Int × Int × Int × Unit))} {a2 : List Int}, (PredBoth a1 a2).isSome = true → pg (a1, a2, ())) ∧ ∀ {a1 : List ((Int × Int × Int × Unit))} {a2 : List Int}, (PredBoth a1 a2).getD false = (fg (a1, a2, ())).1 := by
  obtain ⟨pg, fg, h, hc, hi, hd⟩ := spec_hide PredBoth_runs
  refine ⟨pg, fg, h, ?_, ?_, ?_⟩
  · intro a1 a2 y e
    obtain ⟨h1, h2⟩ := hc (a1, a2, ()) (y, ()) (congrArg (Option.map fun r => (r, ())) e)
    exact ⟨h1, by first | (rw [h2]; done) | (rw [h2]; rfl)⟩
  · intro a1 a2
    intro e
    exact hi (a1, a2, ()) (map_isSome e)
  · intro a1 a2
    rw [hd (a1, a2, ())]
    cases PredBoth a1 a2 <;> rfl
end Go.Proofs.Ytdahfpfkjljojaa.Ct
