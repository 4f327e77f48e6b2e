/- Functions of the program as functions that may fail, and that the code computes them (printed). Each theorem bears its conditions itself. -/
import Derived.Test.YtcghecmefpldmaaVcDefs
import Derived.Test.YtcghecmefpldmaaVcTab
import Derived.Test.YtcghecmefpldmaaVcStampStamps
import Derived.Test.YtcghecmefpldmaaVcSlicesEqualLintInt
import Derived.Test.YtcghecmefpldmaaVcVectVectors
import Derived.Test.YtcghecmefpldmaaVcRRest
import Derived.Test.YtcghecmefpldmaaVcSlicesEqualLVectorVector
open Go Go.Proofs.Ytcghecmefpldmaa.Sy Go.Proofs
set_option maxHeartbeats 4000000
set_option maxRecDepth 100000
set_option linter.unusedVariables false
set_option linter.unusedSimpArgs false
namespace Go.Proofs.Ytcghecmefpldmaa.Vc
theorem StampFront_runs : SpecRuns Try.prog 9 (oSpec [.list (.st [.int .i64, .int .i64, .int .i64]), .int .i64] [.v, .v] [.bool] [.n] fun x => (StampFront x.1 x.2.1).map fun r => (r, ())) := by
  obtain ⟨pg17, fg17, hs17, hc17, hi17, hd17⟩ := stamp_Stamps_sp
  obtain ⟨pg20, fg20, hs20, hc20, hi20, hd20⟩ := slices_Equal_Lint_int_sp
  obtain ⟨pg16, fg16, hs16, hc16, hi16, hd16⟩ := vect_Vectors_sp
  obtain ⟨pg21, fg21, hs21, hc21, hi21, hd21⟩ := R_Rest_sp
  obtain ⟨pg22, fg22, hs22, hc22, hi22, hd22⟩ := slices_Equal_LVector_Vector_sp
  have hsp : SpecsOk Try.prog [(17, ⟨[.list (.st [.int .i64, .int .i64, .int .i64])], [.v], [.list (.int .i64), .int .i64], [.l .n, .n], pg17, fg17⟩), (20, ⟨[.list (.int .i64), .list (.int .i64)], [.v, .v], [.bool], [.n], pg20, fg20⟩), (16, ⟨[.list (.st [.int .i64, .int .i64, .int .i64])], [.v], [.list (.arr 6 (.int .i64)), .int .i64], [.l .n, .n], pg16, fg16⟩), (21, ⟨[.int .i64, .int .i64], [.v, .v], [.int .i64], [.n], pg21, fg21⟩), (22, ⟨[.list (.arr 6 (.int .i64)), .list (.arr 6 (.int .i64))], [.v, .v], [.bool], [.n], pg22, fg22⟩)] := (specsOk_cons Try.func17 (by kernel_rfl) (by kernel_rfl) hs17 (specsOk_cons Try.func20 (by kernel_rfl) (by kernel_rfl) hs20 (specsOk_cons Try.func16 (by kernel_rfl) (by kernel_rfl) hs16 (specsOk_cons Try.func21 (by kernel_rfl) (by kernel_rfl) hs21 (specsOk_cons Try.func22 (by kernel_rfl) (by kernel_rfl) hs22 specsOk_nil)))))
  refine runs_of_o tabOk Try.func9 rfl (Nat.le_of_ble_eq_true rfl) rfl ?_
  rintro E ⟨(t0_1 : List ((Int × Int × Int × Unit))), (t1_2 : Int), ⟨⟩⟩ y hP H hw
  obtain ⟨z, H1, rfl⟩ := map_out H
  replace H : StampFront t0_1 t1_2 = some z := H1
  clear hw H1
  unfold StampFront at H
  refine tr_keep [0, 1] (σ' := mkSl 86 0 [(0, .val (.list (.st [.int .i64, .int .i64, .int .i64])) .n t0_1), (1, .val (.int .i64) .n t1_2)]) rfl ?_
  refine tr_seq ?_
  refine tr_rg hP tabOk hsp fun A hA M hM => ?_
  cbv
  refine hM _ ?_
  refine tr_seq ?_
  refine tr_seq ?_
  refine tr_keep [0, 1] (σ' := mkSl 86 0 [(0, .val (.list (.st [.int .i64, .int .i64, .int .i64])) .n t0_1), (1, .val (.int .i64) .n t1_2)]) (by subst hA; rfl) ?_
  clear hM hA M A
  refine tr_rg hP tabOk hsp fun A hA M hM => ?_
  cbv
  obtain ⟨r_3, hr1, H⟩ := bind_out H
  obtain ⟨pq1, eq1⟩ := hc17 hr1
  refine ⟨by subst hA; subst eq1; exact pq1, hM _ ?_⟩
  refine tr_seq ?_
  refine tr_keep [0, 1, 5, 6] (σ' := mkSl 86 0 [(0, .val (.list (.st [.int .i64, .int .i64, .int .i64])) .n t0_1), (1, .val (.int .i64) .n t1_2), (5, .val (.list (.int .i64)) (.l .n) r_3.1), (6, .val (.int .i64) .n r_3.2)]) (by subst hA; subst eq1; rfl) ?_
  clear pq1 eq1 hr1 hM hA M A
  refine tr_rg hP tabOk hsp fun A hA M hM => ?_
  cbv
  obtain ⟨r_4, er1, H⟩ := letO_out H
  obtain ⟨ob1, H⟩ := ck_out H
  have eq1 := er1.trans hd20
  refine ⟨by subst hA; subst eq1; exact fun h0 => hi20 (ob1 h0), hM _ ?_⟩
  refine tr_keep [0, 1, 27] (σ' := mkSl 86 0 [(0, .val (.list (.st [.int .i64, .int .i64, .int .i64])) .n t0_1), (1, .val (.int .i64) .n t1_2), (27, .val (.bool) .n ((r_3.2 != (0 : Int)) || (!r_4)))]) (by subst hA; subst eq1; rfl) ?_
  clear ob1 eq1 er1 hM hA M A
  refine tr_cond rfl (fun hc => ?_) (fun hc => ?_)
  · replace H := if_t H hc
    refine tr_keep [0, 1] (σ' := mkSl 86 0 [(0, .val (.list (.st [.int .i64, .int .i64, .int .i64])) .n t0_1), (1, .val (.int .i64) .n t1_2)]) rfl ?_
    refine tr_seq ?_
    refine tr_rg hP tabOk hsp fun A hA M hM => ?_
    cbv
    refine hM _ ?_
    refine tr_ret ?_
    have hr := Option.some.inj H
    subst hr
    subst hA
    exact rfl
  · replace H := if_f H hc
    refine tr_keep [0, 1] (σ' := mkSl 86 0 [(0, .val (.list (.st [.int .i64, .int .i64, .int .i64])) .n t0_1), (1, .val (.int .i64) .n t1_2)]) rfl ?_
    refine tr_skip ?_
    refine tr_seq ?_
    refine tr_rg hP tabOk hsp fun A hA M hM => ?_
    cbv
    obtain ⟨r_5, hr1, H⟩ := bind_out H
    obtain ⟨pq1, eq1⟩ := hc17 hr1
    refine ⟨by subst hA; subst eq1; exact pq1, hM _ ?_⟩
    refine tr_seq ?_
    refine tr_keep [0, 1, 7, 8] (σ' := mkSl 86 0 [(0, .val (.list (.st [.int .i64, .int .i64, .int .i64])) .n t0_1), (1, .val (.int .i64) .n t1_2), (7, .val (.list (.int .i64)) (.l .n) r_5.1), (8, .val (.int .i64) .n r_5.2)]) (by subst hA; subst eq1; rfl) ?_
    clear pq1 eq1 hr1 hM hA M A
    refine tr_rg hP tabOk hsp fun A hA M hM => ?_
    cbv
    obtain ⟨r_6, hr1, H⟩ := bind_out H
    obtain ⟨pq1, eq1⟩ := hc16 hr1
    refine ⟨by subst hA; subst eq1; exact pq1, hM _ ?_⟩
    refine tr_seq ?_
    refine tr_seq ?_
    refine tr_keep [0, 1, 7, 8, 9, 10] (σ' := mkSl 86 0 [(0, .val (.list (.st [.int .i64, .int .i64, .int .i64])) .n t0_1), (1, .val (.int .i64) .n t1_2), (7, .val (.list (.int .i64)) (.l .n) r_5.1), (8, .val (.int .i64) .n r_5.2), (9, .val (.list (.arr 6 (.int .i64))) (.l .n) r_6.1), (10, .val (.int .i64) .n r_6.2)]) (by subst hA; subst eq1; rfl) ?_
    clear pq1 eq1 hr1 hM hA M A
    refine tr_rg hP tabOk hsp fun A hA M hM => ?_
    cbv
    refine hM _ ?_
    refine tr_keep [0, 1, 7, 8, 9, 10, 43] (σ' := mkSl 86 0 [(0, .val (.list (.st [.int .i64, .int .i64, .int .i64])) .n t0_1), (1, .val (.int .i64) .n t1_2), (7, .val (.list (.int .i64)) (.l .n) r_5.1), (8, .val (.int .i64) .n r_5.2), (9, .val (.list (.arr 6 (.int .i64))) (.l .n) r_6.1), (10, .val (.int .i64) .n r_6.2), (43, .val (.bool) .n ((r_5.2 != (0 : Int)) || (r_6.2 != (0 : Int))))]) (by subst hA; rfl) ?_
    clear hM hA M A
    refine tr_cond rfl (fun hc => ?_) (fun hc => ?_)
    · replace H := if_t H hc
      refine tr_keep [0, 1, 7, 8, 9, 10] (σ' := mkSl 86 0 [(0, .val (.list (.st [.int .i64, .int .i64, .int .i64])) .n t0_1), (1, .val (.int .i64) .n t1_2), (7, .val (.list (.int .i64)) (.l .n) r_5.1), (8, .val (.int .i64) .n r_5.2), (9, .val (.list (.arr 6 (.int .i64))) (.l .n) r_6.1), (10, .val (.int .i64) .n r_6.2)]) rfl ?_
      refine tr_seq ?_
      refine tr_rg hP tabOk hsp fun A hA M hM => ?_
      cbv
      refine hM _ ?_
      refine tr_ret ?_
      have hr := Option.some.inj H
      subst hr
      subst hA
      exact rfl
    · replace H := if_f H hc
      refine tr_keep [0, 1, 7, 8, 9, 10] (σ' := mkSl 86 0 [(0, .val (.list (.st [.int .i64, .int .i64, .int .i64])) .n t0_1), (1, .val (.int .i64) .n t1_2), (7, .val (.list (.int .i64)) (.l .n) r_5.1), (8, .val (.int .i64) .n r_5.2), (9, .val (.list (.arr 6 (.int .i64))) (.l .n) r_6.1), (10, .val (.int .i64) .n r_6.2)]) rfl ?_
      refine tr_skip ?_
      refine tr_seq ?_
      refine tr_rg hP tabOk hsp fun A hA M hM => ?_
      cbv
      obtain ⟨r_7, hr1, H⟩ := bind_out H
      obtain ⟨pq1, eq1⟩ := hc21 hr1
      refine ⟨by subst hA; subst eq1; exact pq1, hM _ ?_⟩
      refine tr_seq ?_
      refine tr_keep [0, 7, 9, 11] (σ' := mkSl 86 0 [(0, .val (.list (.st [.int .i64, .int .i64, .int .i64])) .n t0_1), (7, .val (.list (.int .i64)) (.l .n) r_5.1), (9, .val (.list (.arr 6 (.int .i64))) (.l .n) r_6.1), (11, .val (.int .i64) .n r_7)]) (by subst hA; subst eq1; rfl) ?_
      clear pq1 eq1 hr1 hM hA M A
      refine tr_rg hP tabOk hsp fun A hA M hM => ?_
      cbv
      obtain ⟨ob1, H⟩ := ck_out H
      obtain ⟨r_8, hr2, H⟩ := bind_out H
      obtain ⟨pq2, eq2⟩ := hc17 hr2
      refine ⟨by subst hA; exact ob1, by subst hA; subst eq2; exact pq2, hM _ ?_⟩
      refine tr_seq ?_
      refine tr_keep [0, 7, 8, 9, 11, 12] (σ' := mkSl 86 0 [(0, .val (.list (.st [.int .i64, .int .i64, .int .i64])) .n t0_1), (7, .val (.list (.int .i64)) (.l .n) r_5.1), (8, .val (.int .i64) .n r_8.2), (9, .val (.list (.arr 6 (.int .i64))) (.l .n) r_6.1), (11, .val (.int .i64) .n r_7), (12, .val (.list (.int .i64)) (.l .n) r_8.1)]) (by subst hA; subst eq2; rfl) ?_
      clear pq2 eq2 hr2 ob1 hM hA M A
      refine tr_rg hP tabOk hsp fun A hA M hM => ?_
      cbv
      obtain ⟨ob1, H⟩ := ck_out H
      obtain ⟨r_9, hr2, H⟩ := bind_out H
      obtain ⟨pq2, eq2⟩ := hc16 hr2
      refine ⟨by subst hA; exact ob1, by subst hA; subst eq2; exact pq2, hM _ ?_⟩
      refine tr_seq ?_
      refine tr_keep [7, 8, 9, 10, 11, 12, 13] (σ' := mkSl 86 0 [(7, .val (.list (.int .i64)) (.l .n) r_5.1), (8, .val (.int .i64) .n r_8.2), (9, .val (.list (.arr 6 (.int .i64))) (.l .n) r_6.1), (10, .val (.int .i64) .n r_9.2), (11, .val (.int .i64) .n r_7), (12, .val (.list (.int .i64)) (.l .n) r_8.1), (13, .val (.list (.arr 6 (.int .i64))) (.l .n) r_9.1)]) (by subst hA; subst eq2; rfl) ?_
      clear pq2 eq2 hr2 ob1 hM hA M A
      refine tr_rg hP tabOk hsp fun A hA M hM => ?_
      cbv
      obtain ⟨ob1, H⟩ := ck_out H
      obtain ⟨r_10, er2, H⟩ := letO_out H
      obtain ⟨ob2, H⟩ := ck_out H
      have eq2 := er2.trans hd20
      obtain ⟨ob3, H⟩ := ck_out H
      obtain ⟨r_11, er4, H⟩ := letO_out H
      obtain ⟨ob4, H⟩ := ck_out H
      have eq4 := er4.trans hd22
      refine ⟨by subst hA; exact ob1, by subst hA; subst eq2; exact fun h0 => hi20 (ob2 h0), by subst hA; subst eq2; exact ob3, by subst hA; subst eq2; subst eq4; exact fun h0 => hi22 (ob4 h0), hM _ ?_⟩
      refine tr_ret ?_
      have hr := Option.some.inj H
      subst hr
      subst hA
      subst eq2
      subst eq4
      exact rfl
theorem StampFront_sp : ∃ (pg : PT.denL [.list (.st [.int .i64, .int .i64, .int .i64]), .int .i64] → Prop) (fg : PT.denL [.list (.st [.int .i64, .int .i64, .int .i64]), .int .i64] → PT.denL [.bool]), SpecRuns Try.prog 9 ⟨[.list (.st [.int .i64, .int .i64, .int .i64]), .int .i64], [.v, .v], [.bool], [.n], pg, fg⟩ ∧ (∀ {a1 : List ((Int × Int × Int × Unit))} {a2 : Int} {y : Bool}, StampFront a1 a2 = some y → pg (a1, a2, ()) ∧ y = (fg (a1, a2, ())).1) ∧ (∀ {a1 : List ((Int × Int × Int × Unit))} {a2 : Int}, (StampFront a1 a2).isSome = true → pg (a1, a2, ())) ∧ ∀ {a1 : List ((Int × Int × Int × Unit))} {a2 : Int}, (StampFront a1 a2).getD false = (fg (a1, a2, ())).1 := by
  obtain ⟨pg, fg, h, hc, hi, hd⟩ := spec_hide StampFront_runs
  refine ⟨pg, fg, h, ?_, ?_, ?_⟩
  · intro a1 a2 y e
    obtain ⟨h1, h2⟩ := hc (a1, a2, ()) (y, ()) (congrArg (Option.map fun r => (r, ())) e)
    exact ⟨h1, by first | (rw [h2]; done) | (rw [h2]; rfl)⟩
  · intro a1 a2
    intro e
    exact hi (a1, a2, ()) (map_isSome e)
  · intro a1 a2
    rw [hd (a1, a2, ())]
    cases StampFront a1 a2 <;> rfl
end Go.Proofs.Ytcghecmefpldmaa.Vc
