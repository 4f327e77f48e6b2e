/- Functions of the program as functions that may fail, and that the code computes them (printed). Each theorem bears its conditions itself. -/
import Derived.Test.YtdahfpfkjljojaaCtDefs
import Derived.Test.YtdahfpfkjljojaaCtTab
import Derived.Test.YtdahfpfkjljojaaCtQsent
import Derived.Test.YtdahfpfkjljojaaCtQlate
import Derived.Test.YtdahfpfkjljojaaCtQpredQFirst
import Derived.Test.YtdahfpfkjljojaaCtQstampQCheck
import Derived.Test.YtdahfpfkjljojaaCtQanyTruth
import Derived.Test.YtdahfpfkjljojaaCtQsomeCut
import Derived.Test.YtdahfpfkjljojaaCtQcutQRight
import Derived.Test.YtdahfpfkjljojaaCtQRQSo
import Derived.Test.YtdahfpfkjljojaaCtQvectQWithin
open Go Go.Proofs.Ytdahfpfkjljojaa.Sy Go.Proofs
set_option maxHeartbeats 4000000
set_option maxRecDepth 100000
set_option cbv.maxSteps 10000000
set_option linter.unusedVariables false
set_option linter.unusedSimpArgs false
namespace Go.Proofs.Ytdahfpfkjljojaa.Ct
theorem PredFirst_runs : SpecRuns Try.prog 8 (oSpec [.list (.st [.int .i64, .int .i64, .int .i64]), .arr 6 (.int .u64), .arr 6 (.int .i64)] [.v, .v, .v] [.bool] [.n] fun x => (PredFirst x.1 x.2.1 x.2.2.1).map fun r => (r, ())) := by
  obtain ⟨pg13, fg13, hs13, hc13, hi13, hd13⟩ := sent_sp
  obtain ⟨pg29, fg29, hs29, hc29, hi29, hd29⟩ := late_sp
  obtain ⟨pg28, fg28, hs28, hc28, hi28, hd28⟩ := pred_First_sp
  obtain ⟨pg14, fg14, hs14, hc14, hi14, hd14⟩ := stamp_Check_sp
  obtain ⟨pg30, fg30, hs30, hc30, hi30, hd30⟩ := anyTruth_sp
  obtain ⟨pg15, fg15, hs15, hc15, hi15, hd15⟩ := someCut_sp
  obtain ⟨pg16, fg16, hs16, hc16, hi16, hd16⟩ := cut_Right_sp
  obtain ⟨pg31, fg31, hs31, hc31, hi31, hd31⟩ := R_So_sp
  obtain ⟨pg18, fg18, hs18, hc18, hi18, hd18⟩ := vect_Within_sp
  have hsp : SpecsOk Try.prog [(13, ⟨[], [], [.list (.st [.int .i64, .int .i64, .int .i64])], [.l .n], pg13, fg13⟩), (29, ⟨[.list (.st [.int .i64, .int .i64, .int .i64])], [.v], [.list (.list (.bool))], [.l (.l .n)], pg29, fg29⟩), (28, ⟨[.list (.st [.int .i64, .int .i64, .int .i64]), .list (.list (.bool))], [.v, .v], [.arr 6 (.int .i64), .int .i64], [.n, .n], pg28, fg28⟩), (14, ⟨[.list (.st [.int .i64, .int .i64, .int .i64])], [.v], [.int .i64], [.n], pg14, fg14⟩), (30, ⟨[.list (.st [.int .i64, .int .i64, .int .i64]), .arr 6 (.int .u64)], [.v, .v], [.list (.list (.bool))], [.l (.l .n)], pg30, fg30⟩), (15, ⟨[.list (.st [.int .i64, .int .i64, .int .i64]), .arr 6 (.int .i64)], [.v, .v], [.arr 6 (.int .i64)], [.n], pg15, fg15⟩), (16, ⟨[.list (.st [.int .i64, .int .i64, .int .i64]), .arr 6 (.int .i64)], [.v, .v], [.bool, .int .i64], [.n, .n], pg16, fg16⟩), (31, ⟨[.list (.list (.bool)), .arr 6 (.int .i64)], [.v, .v], [.bool], [.n], pg31, fg31⟩), (18, ⟨[.arr 6 (.int .i64), .arr 6 (.int .i64)], [.v, .v], [.bool], [.n], pg18, fg18⟩)] := (specsOk_cons Try.func13 (by kernel_rfl) (by kernel_rfl) hs13 (specsOk_cons Try.func29 (by kernel_rfl) (by kernel_rfl) hs29 (specsOk_cons Try.func28 (by kernel_rfl) (by kernel_rfl) hs28 (specsOk_cons Try.func14 (by kernel_rfl) (by kernel_rfl) hs14 (specsOk_cons Try.func30 (by kernel_rfl) (by kernel_rfl) hs30 (specsOk_cons Try.func15 (by kernel_rfl) (by kernel_rfl) hs15 (specsOk_cons Try.func16 (by kernel_rfl) (by kernel_rfl) hs16 (specsOk_cons Try.func31 (by kernel_rfl) (by kernel_rfl) hs31 (specsOk_cons Try.func18 (by kernel_rfl) (by kernel_rfl) hs18 specsOk_nil)))))))))
  refine runs_of_o tabOk Try.func8 rfl (Nat.le_of_ble_eq_true rfl) rfl ?_
  rintro E ⟨(t0_1 : List ((Int × Int × Int × Unit))), (t1_2 : List Int), (t2_3 : List Int), ⟨⟩⟩ y hP H hw
  obtain ⟨z, H1, rfl⟩ := map_out H
  replace H : PredFirst t0_1 t1_2 t2_3 = some z := H1
  clear hw H1
  unfold PredFirst at H
  refine tr_keep [0, 1, 2] (σ' := mkSl 104 0 [(0, .val (.list (.st [.int .i64, .int .i64, .int .i64])) .n t0_1), (1, .val (.arr 6 (.int .u64)) .n t1_2), (2, .val (.arr 6 (.int .i64)) .n t2_3)]) rfl ?_
  refine tr_seq ?_
  refine tr_rg hP tabOk hsp fun A hA M hM => ?_
  cbv
  refine hM _ ?_
  refine tr_seq ?_
  refine tr_seq ?_
  refine tr_keep [0, 4, 5] (σ' := mkSl 104 0 [(0, .val (.list (.st [.int .i64, .int .i64, .int .i64])) .n t0_1), (4, .val (.box (.arr 6 (.int .u64))) (.b .n) t1_2), (5, .val (.box (.arr 6 (.int .i64))) (.b .n) t2_3)]) (by subst hA; rfl) ?_
  clear hM hA M A
  refine tr_rg hP tabOk hsp fun A hA M hM => ?_
  cbv
  obtain ⟨r_4, hr1, H⟩ := bind_out H
  obtain ⟨pq1, eq1⟩ := hc13 hr1
  obtain ⟨r_5, hr2, H⟩ := bind_out H
  obtain ⟨pq2, eq2⟩ := hc13 hr2
  obtain ⟨r_6, hr3, H⟩ := bind_out H
  obtain ⟨pq3, eq3⟩ := hc29 hr3
  obtain ⟨r_7, hr4, H⟩ := bind_out H
  obtain ⟨pq4, eq4⟩ := hc28 hr4
  refine ⟨by subst hA; subst eq1; exact pq1, by subst hA; subst eq1; subst eq2; exact pq2, by subst hA; subst eq1; subst eq2; subst eq3; exact pq3, by subst hA; subst eq1; subst eq2; subst eq3; subst eq4; exact pq4, hM _ ?_⟩
  refine tr_seq ?_
  refine tr_keep [0, 4, 5, 7, 8] (σ' := mkSl 104 0 [(0, .val (.list (.st [.int .i64, .int .i64, .int .i64])) .n t0_1), (4, .val (.box (.arr 6 (.int .u64))) (.b .n) t1_2), (5, .val (.box (.arr 6 (.int .i64))) (.b .n) t2_3), (7, .val (.box (.arr 6 (.int .i64))) (.b .n) r_7.1), (8, .val (.int .i64) .n r_7.2)]) (by subst hA; subst eq1; subst eq2; subst eq3; subst eq4; rfl) ?_
  clear pq4 eq4 hr4 pq3 eq3 hr3 pq2 eq2 hr2 pq1 eq1 hr1 hM hA M A
  refine tr_rg hP tabOk hsp fun A hA M hM => ?_
  cbv
  refine hM _ ?_
  refine tr_keep [0, 4, 5, 30] (σ' := mkSl 104 0 [(0, .val (.list (.st [.int .i64, .int .i64, .int .i64])) .n t0_1), (4, .val (.box (.arr 6 (.int .u64))) (.b .n) t1_2), (5, .val (.box (.arr 6 (.int .i64))) (.b .n) t2_3), (30, .val (.bool) .n ((r_7.2 != (0 : Int)) || (!(eqA6I r_7.1 [(1 : Int), (0 : Int), (0 : Int), (0 : Int), (0 : Int), (0 : Int)]))))]) (by subst hA; rfl) ?_
  clear hM hA M A
  refine tr_cond rfl (fun hc => ?_) (fun hc => ?_)
  · replace H := if_t H hc
    refine tr_keep [0, 4, 5] (σ' := mkSl 104 0 [(0, .val (.list (.st [.int .i64, .int .i64, .int .i64])) .n t0_1), (4, .val (.box (.arr 6 (.int .u64))) (.b .n) t1_2), (5, .val (.box (.arr 6 (.int .i64))) (.b .n) t2_3)]) rfl ?_
    refine tr_seq ?_
    refine tr_rg hP tabOk hsp fun A hA M hM => ?_
    cbv
    refine hM _ ?_
    refine tr_ret ?_
    have hr := Option.some.inj H
    subst hr
    subst hA
    exact rfl
  · replace H := if_f H hc
    refine tr_keep [0, 4, 5] (σ' := mkSl 104 0 [(0, .val (.list (.st [.int .i64, .int .i64, .int .i64])) .n t0_1), (4, .val (.box (.arr 6 (.int .u64))) (.b .n) t1_2), (5, .val (.box (.arr 6 (.int .i64))) (.b .n) t2_3)]) rfl ?_
    refine tr_skip ?_
    refine tr_seq ?_
    refine tr_seq ?_
    refine tr_rg hP tabOk hsp fun A hA M hM => ?_
    cbv
    obtain ⟨r_8, hr1, H⟩ := bind_out H
    obtain ⟨pq1, eq1⟩ := hc14 hr1
    refine ⟨by subst hA; subst eq1; exact pq1, hM _ ?_⟩
    refine tr_keep [0, 4, 5, 33] (σ' := mkSl 104 0 [(0, .val (.list (.st [.int .i64, .int .i64, .int .i64])) .n t0_1), (4, .val (.box (.arr 6 (.int .u64))) (.b .n) t1_2), (5, .val (.box (.arr 6 (.int .i64))) (.b .n) t2_3), (33, .val (.bool) .n (r_8 != (0 : Int)))]) (by subst hA; subst eq1; rfl) ?_
    clear pq1 eq1 hr1 hM hA M A
    refine tr_cond rfl (fun hc => ?_) (fun hc => ?_)
    · replace H := if_t H hc
      refine tr_keep [0, 4, 5] (σ' := mkSl 104 0 [(0, .val (.list (.st [.int .i64, .int .i64, .int .i64])) .n t0_1), (4, .val (.box (.arr 6 (.int .u64))) (.b .n) t1_2), (5, .val (.box (.arr 6 (.int .i64))) (.b .n) t2_3)]) rfl ?_
      refine tr_seq ?_
      refine tr_rg hP tabOk hsp fun A hA M hM => ?_
      cbv
      refine hM _ ?_
      refine tr_ret ?_
      have hr := Option.some.inj H
      subst hr
      subst hA
      exact rfl
    · replace H := if_f H hc
      refine tr_keep [0, 4, 5] (σ' := mkSl 104 0 [(0, .val (.list (.st [.int .i64, .int .i64, .int .i64])) .n t0_1), (4, .val (.box (.arr 6 (.int .u64))) (.b .n) t1_2), (5, .val (.box (.arr 6 (.int .i64))) (.b .n) t2_3)]) rfl ?_
      refine tr_skip ?_
      refine tr_seq ?_
      refine tr_rg hP tabOk hsp fun A hA M hM => ?_
      cbv
      obtain ⟨r_9, hr1, H⟩ := bind_out H
      obtain ⟨pq1, eq1⟩ := hc30 hr1
      refine ⟨by subst hA; subst eq1; exact pq1, hM _ ?_⟩
      refine tr_seq ?_
      refine tr_keep [0, 5, 9] (σ' := mkSl 104 0 [(0, .val (.list (.st [.int .i64, .int .i64, .int .i64])) .n t0_1), (5, .val (.box (.arr 6 (.int .i64))) (.b .n) t2_3), (9, .val (.list (.list (.bool))) (.l (.l .n)) r_9)]) (by subst hA; subst eq1; rfl) ?_
      clear pq1 eq1 hr1 hM hA M A
      refine tr_rg hP tabOk hsp fun A hA M hM => ?_
      cbv
      obtain ⟨r_10, hr1, H⟩ := bind_out H
      obtain ⟨pq1, eq1⟩ := hc28 hr1
      refine ⟨by subst hA; subst eq1; exact pq1, hM _ ?_⟩
      refine tr_seq ?_
      refine tr_keep [0, 5, 9, 10, 11] (σ' := mkSl 104 0 [(0, .val (.list (.st [.int .i64, .int .i64, .int .i64])) .n t0_1), (5, .val (.box (.arr 6 (.int .i64))) (.b .n) t2_3), (9, .val (.list (.list (.bool))) (.l (.l .n)) r_9), (10, .val (.box (.arr 6 (.int .i64))) (.b .n) r_10.1), (11, .val (.int .i64) .n r_10.2)]) (by subst hA; subst eq1; rfl) ?_
      clear pq1 eq1 hr1 hM hA M A
      refine tr_rg hP tabOk hsp fun A hA M hM => ?_
      cbv
      obtain ⟨r_11, hr1, H⟩ := bind_out H
      obtain ⟨pq1, eq1⟩ := hc15 hr1
      refine ⟨by subst hA; subst eq1; exact pq1, hM _ ?_⟩
      refine tr_seq ?_
      refine tr_keep [0, 5, 9, 10, 11] (σ' := mkSl 104 0 [(0, .val (.list (.st [.int .i64, .int .i64, .int .i64])) .n t0_1), (5, .val (.box (.arr 6 (.int .i64))) (.b .n) r_11), (9, .val (.list (.list (.bool))) (.l (.l .n)) r_9), (10, .val (.box (.arr 6 (.int .i64))) (.b .n) r_10.1), (11, .val (.int .i64) .n r_10.2)]) (by subst hA; subst eq1; rfl) ?_
      clear pq1 eq1 hr1 hM hA M A
      refine tr_rg hP tabOk hsp fun A hA M hM => ?_
      cbv
      obtain ⟨r_12, hr1, H⟩ := bind_out H
      obtain ⟨pq1, eq1⟩ := hc16 hr1
      refine ⟨by subst hA; subst eq1; exact pq1, hM _ ?_⟩
      refine tr_seq ?_
      refine tr_keep [0, 5, 9, 10, 11, 12, 13] (σ' := mkSl 104 0 [(0, .val (.list (.st [.int .i64, .int .i64, .int .i64])) .n t0_1), (5, .val (.box (.arr 6 (.int .i64))) (.b .n) r_11), (9, .val (.list (.list (.bool))) (.l (.l .n)) r_9), (10, .val (.box (.arr 6 (.int .i64))) (.b .n) r_10.1), (11, .val (.int .i64) .n r_10.2), (12, .val (.bool) .n r_12.1), (13, .val (.int .i64) .n r_12.2)]) (by subst hA; subst eq1; rfl) ?_
      clear pq1 eq1 hr1 hM hA M A
      refine tr_rg hP tabOk hsp fun A hA M hM => ?_
      cbv
      obtain ⟨r_13, er1, H⟩ := letO_out H
      obtain ⟨ob1, H⟩ := ck_out H
      have eq1 := er1.trans hd31
      refine ⟨by subst hA; subst eq1; exact fun h0 => hi31 (ob1 h0), hM _ ?_⟩
      refine tr_seq ?_
      refine tr_seq ?_
      refine tr_keepL [0, 5, 9, 10, 11, 13, 14] (fun t14_14 : Bool => mkSl 104 0 [(0, .val (.list (.st [.int .i64, .int .i64, .int .i64])) .n t0_1), (5, .val (.box (.arr 6 (.int .i64))) (.b .n) r_11), (9, .val (.list (.list (.bool))) (.l (.l .n)) r_9), (10, .val (.box (.arr 6 (.int .i64))) (.b .n) r_10.1), (11, .val (.int .i64) .n r_10.2), (13, .val (.int .i64) .n r_12.2), (14, .val (.bool) .n t14_14)]) H (by subst hA; subst eq1; rfl) (fun t14_14 H => ?_)
      clear ob1 eq1 er1 hM hA M A
      refine tr_rg hP tabOk hsp fun A hA M hM => ?_
      cbv
      refine hM _ ?_
      refine tr_keep [0, 5, 9, 10, 11, 13, 14, 59] (σ' := mkSl 104 0 [(0, .val (.list (.st [.int .i64, .int .i64, .int .i64])) .n t0_1), (5, .val (.box (.arr 6 (.int .i64))) (.b .n) r_11), (9, .val (.list (.list (.bool))) (.l (.l .n)) r_9), (10, .val (.box (.arr 6 (.int .i64))) (.b .n) r_10.1), (11, .val (.int .i64) .n r_10.2), (13, .val (.int .i64) .n r_12.2), (14, .val (.bool) .n t14_14), (59, .val (.bool) .n (r_10.2 == (6 : Int)))]) (by subst hA; rfl) ?_
      clear hM hA M A
      refine tr_cond rfl (fun hc => ?_) (fun hc => ?_)
      · replace H := if_t H hc
        refine tr_keep [0, 5, 9, 10, 11, 13, 14] (σ' := mkSl 104 0 [(0, .val (.list (.st [.int .i64, .int .i64, .int .i64])) .n t0_1), (5, .val (.box (.arr 6 (.int .i64))) (.b .n) r_11), (9, .val (.list (.list (.bool))) (.l (.l .n)) r_9), (10, .val (.box (.arr 6 (.int .i64))) (.b .n) r_10.1), (11, .val (.int .i64) .n r_10.2), (13, .val (.int .i64) .n r_12.2), (14, .val (.bool) .n t14_14)]) rfl ?_
        refine tr_seq ?_
        refine tr_rg hP tabOk hsp fun A hA M hM => ?_
        cbv
        refine hM _ ?_
        refine tr_ret ?_
        have hr := Option.some.inj H
        subst hr
        subst hA
        exact rfl
      · replace H := if_f H hc
        refine tr_keep [0, 5, 9, 10, 11, 13, 14] (σ' := mkSl 104 0 [(0, .val (.list (.st [.int .i64, .int .i64, .int .i64])) .n t0_1), (5, .val (.box (.arr 6 (.int .i64))) (.b .n) r_11), (9, .val (.list (.list (.bool))) (.l (.l .n)) r_9), (10, .val (.box (.arr 6 (.int .i64))) (.b .n) r_10.1), (11, .val (.int .i64) .n r_10.2), (13, .val (.int .i64) .n r_12.2), (14, .val (.bool) .n t14_14)]) rfl ?_
        refine tr_skip ?_
        refine tr_seq ?_
        refine tr_rg hP tabOk hsp fun A hA M hM => ?_
        cbv
        obtain ⟨r_15, hr1, H⟩ := bind_out H
        obtain ⟨pq1, eq1⟩ := hc16 hr1
        refine ⟨by subst hA; subst eq1; exact pq1, hM _ ?_⟩
        refine tr_seq ?_
        refine tr_keep [5, 9, 10, 11, 13, 14, 15, 16] (σ' := mkSl 104 0 [(5, .val (.box (.arr 6 (.int .i64))) (.b .n) r_11), (9, .val (.list (.list (.bool))) (.l (.l .n)) r_9), (10, .val (.box (.arr 6 (.int .i64))) (.b .n) r_10.1), (11, .val (.int .i64) .n r_10.2), (13, .val (.int .i64) .n r_12.2), (14, .val (.bool) .n t14_14), (15, .val (.bool) .n r_15.1), (16, .val (.int .i64) .n r_15.2)]) (by subst hA; subst eq1; rfl) ?_
        clear pq1 eq1 hr1 hM hA M A
        refine tr_rg hP tabOk hsp fun A hA M hM => ?_
        cbv
        obtain ⟨r_16, er1, H⟩ := letO_out H
        obtain ⟨ob1, H⟩ := ck_out H
        have eq1 := er1.trans hd31
        obtain ⟨r_17, er2, H⟩ := letO_out H
        obtain ⟨ob2, H⟩ := ck_out H
        have eq2 := er2.trans hd18
        refine ⟨by subst hA; subst eq1; exact fun h0 => hi31 (ob1 h0), by subst hA; subst eq1; subst eq2; exact fun h0 h1 => hi18 (ob2 h0 h1), hM _ ?_⟩
        refine tr_ret ?_
        have hr := Option.some.inj H
        subst hr
        subst hA
        subst eq1
        subst eq2
        exact rfl
theorem PredFirst_sp : ∃ (pg : PT.denL [.list (.st [.int .i64, .int .i64, .int .i64]), .arr 6 (.int .u64), .arr 6 (.int .i64)] → Prop) (fg : PT.denL [.list (.st [.int .i64, .int .i64, .int .i64]), .arr 6 (.int .u64), .arr 6 (.int .i64)] → PT.denL [.bool]), SpecRuns Try.prog 8 ⟨[.list (.st [.int .i64, .int .i64, .int .i64]), .arr 6 (.int .u64), .arr 6 (.int .i64)], [.v, .v, .v], [.bool], [.n], pg, fg⟩ ∧ (∀ {a1 : List ((Int × Int × Int × Unit))} {a2 : List Int} {a3 : List Int} {y : Bool}, PredFirst a1 a2 a3 = some y → pg (a1, a2, a3, ()) ∧ y = (fg (a1, a2, a3, ())).1) ∧ (∀ {a1 : List ((Int × Int × Int × Unit))} {a2 : List Int} {a3 : List Int}, (PredFirst a1 a2 a3).isSome = true → pg (a1, a2, a3, ())) ∧ ∀ {a1 : List ((Int × Int × Int × Unit))} {a2 : List Int} {a3 : List Int}, (PredFirst a1 a2 a3).getD false = (fg (a1, a2, a3, ())).1 := by
  obtain ⟨pg, fg, h, hc, hi, hd⟩ := spec_hide PredFirst_runs
  refine ⟨pg, fg, h, ?_, ?_, ?_⟩
  · intro a1 a2 a3 y e
    obtain ⟨h1, h2⟩ := hc (a1, a2, a3, ()) (y, ()) (congrArg (Option.map fun r => (r, ())) e)
    exact ⟨h1, by first | (rw [h2]; done) | (rw [h2]; rfl)⟩
  · intro a1 a2 a3
    intro e
    exact hi (a1, a2, a3, ()) (map_isSome e)
  · intro a1 a2 a3
    rw [hd (a1, a2, a3, ())]
    cases PredFirst a1 a2 a3 <;> rfl
end Go.Proofs.Ytdahfpfkjljojaa.Ct
