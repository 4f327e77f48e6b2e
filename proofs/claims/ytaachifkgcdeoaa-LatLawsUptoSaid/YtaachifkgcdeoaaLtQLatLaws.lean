/- Functions of the program as functions that may fail, and that the code computes them (printed). Each theorem bears its conditions itself. -/
import Derived.Test.YtaachifkgcdeoaaLtDefs
import Derived.Test.YtaachifkgcdeoaaLtTab
import Derived.Test.YtaachifkgcdeoaaLtQlatQBoth
import Derived.Test.YtaachifkgcdeoaaLtQlatQCheck
import Derived.Test.YtaachifkgcdeoaaLtQRQRest
import Derived.Test.YtaachifkgcdeoaaLtQLatLawsQ1
open Go Go.Proofs.Ytaachifkgcdeoaa.Sy Go.Proofs
set_option maxHeartbeats 4000000
set_option maxRecDepth 100000
set_option cbv.maxSteps 10000000
set_option linter.unusedVariables false
set_option linter.unusedSimpArgs false
namespace Go.Proofs.Ytaachifkgcdeoaa.Lt
theorem LatLaws_runs : SpecRuns Try.prog 3 (oSpec [.list (.int .u16), .int .i64, .int .i64, .int .i64] [.v, .v, .v, .v] [.bool] [.n] fun x => (LatLaws x.1 x.2.1 x.2.2.1 x.2.2.2.1).map fun r => (r, ())) := by
  obtain ⟨pg8, fg8, hs8, hc8, hi8, hd8⟩ := lat_Both_sp
  obtain ⟨pg9, fg9, hs9, hc9, hi9, hd9⟩ := lat_Check_sp
  obtain ⟨pg10, fg10, hs10, hc10, hi10, hd10⟩ := R_Rest_sp
  obtain ⟨pg11, fg11, hs11, hc11, hi11, hd11⟩ := LatLaws_1_sp
  have hsp : SpecsOk Try.prog [(8, ⟨[.list (.int .u16), .int .i64, .int .i64], [.v, .v, .v], [.int .u16, .int .u16, .int .i64], [.n, .n, .n], pg8, fg8⟩), (9, ⟨[.list (.int .u16)], [.v], [.int .i64], [.n], pg9, fg9⟩), (10, ⟨[.int .i64, .int .i64], [.v, .v], [.int .i64], [.n], pg10, fg10⟩), (11, ⟨[.int .u16, .list (.int .u16)], [.v, .p], [.int .i64], [.n], pg11, fg11⟩)] := (specsOk_cons Try.func8 (by kernel_rfl) (by kernel_rfl) hs8 (specsOk_cons Try.func9 (by kernel_rfl) (by kernel_rfl) hs9 (specsOk_cons Try.func10 (by kernel_rfl) (by kernel_rfl) hs10 (specsOk_cons Try.func11 (by kernel_rfl) (by kernel_rfl) hs11 specsOk_nil))))
  refine runs_of_o tabOk Try.func3 rfl (Nat.le_of_ble_eq_true rfl) rfl ?_
  rintro E ⟨(t0_1 : List Int), (t1_2 : Int), (t2_3 : Int), (t3_4 : Int), ⟨⟩⟩ y hP H hw
  obtain ⟨z, H1, rfl⟩ := map_out H
  replace H : LatLaws t0_1 t1_2 t2_3 t3_4 = some z := H1
  clear hw H1
  unfold LatLaws at H
  refine tr_keep [0, 1, 2, 3] (σ' := mkSl 157 0 [(0, .val (.list (.int .u16)) .n t0_1), (1, .val (.int .i64) .n t1_2), (2, .val (.int .i64) .n t2_3), (3, .val (.int .i64) .n t3_4)]) rfl ?_
  refine tr_seq ?_
  refine tr_rg hP tabOk hsp fun A hA M hM => ?_
  cbv
  refine hM _ ?_
  refine tr_seq ?_
  refine tr_seq ?_
  refine tr_keep [1, 2, 3, 4] (σ' := mkSl 157 0 [(1, .val (.int .i64) .n t1_2), (2, .val (.int .i64) .n t2_3), (3, .val (.int .i64) .n t3_4), (4, .val (.box (.list (.int .u16))) (.b .n) t0_1)]) (by subst hA; rfl) ?_
  clear hM hA M A
  refine tr_rg hP tabOk hsp fun A hA M hM => ?_
  cbv
  obtain ⟨r_5, hr1, H⟩ := bind_out H
  obtain ⟨pq1, eq1⟩ := hc8 hr1
  refine ⟨by subst hA; subst eq1; exact pq1, hM _ ?_⟩
  refine tr_seq ?_
  refine tr_keep [1, 2, 3, 4, 9, 10, 11] (σ' := mkSl 157 0 [(1, .val (.int .i64) .n t1_2), (2, .val (.int .i64) .n t2_3), (3, .val (.int .i64) .n t3_4), (4, .val (.box (.list (.int .u16))) (.b .n) t0_1), (9, .val (.int .u16) .n r_5.1), (10, .val (.int .u16) .n r_5.2.1), (11, .val (.int .i64) .n r_5.2.2)]) (by subst hA; subst eq1; rfl) ?_
  clear pq1 eq1 hr1 hM hA M A
  refine tr_rg hP tabOk hsp fun A hA M hM => ?_
  cbv
  refine hM _ ?_
  refine tr_keep [1, 2, 3, 4, 50] (σ' := mkSl 157 0 [(1, .val (.int .i64) .n t1_2), (2, .val (.int .i64) .n t2_3), (3, .val (.int .i64) .n t3_4), (4, .val (.box (.list (.int .u16))) (.b .n) t0_1), (50, .val (.bool) .n (((r_5.2.2 != (0 : Int)) || (r_5.1 != (3 : Int))) || (r_5.2.1 != (0 : Int))))]) (by subst hA; rfl) ?_
  clear hM hA M A
  refine tr_cond rfl (fun hc => ?_) (fun hc => ?_)
  · replace H := if_t H hc
    refine tr_keep [1, 2, 3, 4] (σ' := mkSl 157 0 [(1, .val (.int .i64) .n t1_2), (2, .val (.int .i64) .n t2_3), (3, .val (.int .i64) .n t3_4), (4, .val (.box (.list (.int .u16))) (.b .n) t0_1)]) rfl ?_
    refine tr_seq ?_
    refine tr_rg hP tabOk hsp fun A hA M hM => ?_
    cbv
    refine hM _ ?_
    refine tr_ret ?_
    have hr := Option.some.inj H
    subst hr
    subst hA
    exact rfl
  · replace H := if_f H hc
    refine tr_keep [1, 2, 3, 4] (σ' := mkSl 157 0 [(1, .val (.int .i64) .n t1_2), (2, .val (.int .i64) .n t2_3), (3, .val (.int .i64) .n t3_4), (4, .val (.box (.list (.int .u16))) (.b .n) t0_1)]) rfl ?_
    refine tr_skip ?_
    refine tr_seq ?_
    refine tr_seq ?_
    refine tr_rg hP tabOk hsp fun A hA M hM => ?_
    cbv
    obtain ⟨r_6, hr1, H⟩ := bind_out H
    obtain ⟨pq1, eq1⟩ := hc9 hr1
    refine ⟨by subst hA; subst eq1; exact pq1, hM _ ?_⟩
    refine tr_keep [1, 2, 3, 4, 53] (σ' := mkSl 157 0 [(1, .val (.int .i64) .n t1_2), (2, .val (.int .i64) .n t2_3), (3, .val (.int .i64) .n t3_4), (4, .val (.box (.list (.int .u16))) (.b .n) t0_1), (53, .val (.bool) .n (r_6 != (0 : Int)))]) (by subst hA; subst eq1; rfl) ?_
    clear pq1 eq1 hr1 hM hA M A
    refine tr_cond rfl (fun hc => ?_) (fun hc => ?_)
    · replace H := if_t H hc
      refine tr_keep [1, 2, 3, 4] (σ' := mkSl 157 0 [(1, .val (.int .i64) .n t1_2), (2, .val (.int .i64) .n t2_3), (3, .val (.int .i64) .n t3_4), (4, .val (.box (.list (.int .u16))) (.b .n) t0_1)]) rfl ?_
      refine tr_seq ?_
      refine tr_rg hP tabOk hsp fun A hA M hM => ?_
      cbv
      refine hM _ ?_
      refine tr_ret ?_
      have hr := Option.some.inj H
      subst hr
      subst hA
      exact rfl
    · replace H := if_f H hc
      refine tr_keep [1, 2, 3, 4] (σ' := mkSl 157 0 [(1, .val (.int .i64) .n t1_2), (2, .val (.int .i64) .n t2_3), (3, .val (.int .i64) .n t3_4), (4, .val (.box (.list (.int .u16))) (.b .n) t0_1)]) rfl ?_
      refine tr_skip ?_
      refine tr_seq ?_
      refine tr_rg hP tabOk hsp fun A hA M hM => ?_
      cbv
      refine hM _ ?_
      refine tr_seq ?_
      refine tr_keepL [1, 2, 3, 4, 12] (fun t12_7 : Int => mkSl 157 0 [(1, .val (.int .i64) .n t1_2), (2, .val (.int .i64) .n t2_3), (3, .val (.int .i64) .n t3_4), (4, .val (.box (.list (.int .u16))) (.b .n) t0_1), (12, .val (.int .i64) .n t12_7)]) H (by subst hA; rfl) (fun t12_7 H => ?_)
      clear hM hA M A
      refine tr_rg hP tabOk hsp fun A hA M hM => ?_
      cbv
      obtain ⟨r_8, hr1, H⟩ := bind_out H
      obtain ⟨pq1, eq1⟩ := hc10 hr1
      obtain ⟨r_9, hr2, H⟩ := bind_out H
      obtain ⟨pq2, eq2⟩ := hc10 hr2
      obtain ⟨r_10, hr3, H⟩ := bind_out H
      obtain ⟨pq3, eq3⟩ := hc10 hr3
      refine ⟨by subst hA; subst eq1; exact pq1, by subst hA; subst eq1; subst eq2; exact pq2, by subst hA; subst eq1; subst eq2; subst eq3; exact pq3, hM _ ?_⟩
      refine tr_seq ?_
      refine tr_keep [4, 13, 14, 15] (σ' := mkSl 157 0 [(4, .val (.box (.list (.int .u16))) (.b .n) t0_1), (13, .val (.int .i64) .n r_8), (14, .val (.int .i64) .n r_9), (15, .val (.int .i64) .n r_10)]) (by subst hA; subst eq1; subst eq2; subst eq3; rfl) ?_
      clear pq3 eq3 hr3 pq2 eq2 hr2 pq1 eq1 hr1 hM hA M A
      refine tr_rg hP tabOk hsp fun A hA M hM => ?_
      cbv
      obtain ⟨r_11, hr1, H⟩ := bind_out H
      obtain ⟨pq1, eq1⟩ := hc8 hr1
      refine ⟨by subst hA; subst eq1; exact pq1, hM _ ?_⟩
      refine tr_seq ?_
      refine tr_keep [4, 13, 14, 15, 16, 18] (σ' := mkSl 157 0 [(4, .val (.box (.list (.int .u16))) (.b .n) t0_1), (13, .val (.int .i64) .n r_8), (14, .val (.int .i64) .n r_9), (15, .val (.int .i64) .n r_10), (16, .val (.int .u16) .n r_11.1), (18, .val (.int .i64) .n r_11.2.2)]) (by subst hA; subst eq1; rfl) ?_
      clear pq1 eq1 hr1 hM hA M A
      refine tr_rg hP tabOk hsp fun A hA M hM => ?_
      cbv
      obtain ⟨r_12, hr1, H⟩ := bind_out H
      obtain ⟨pq1, eq1⟩ := hc8 hr1
      refine ⟨by subst hA; subst eq1; exact pq1, hM _ ?_⟩
      refine tr_seq ?_
      refine tr_keep [4, 13, 15, 16, 18, 20] (σ' := mkSl 157 0 [(4, .val (.box (.list (.int .u16))) (.b .n) t0_1), (13, .val (.int .i64) .n r_8), (15, .val (.int .i64) .n r_10), (16, .val (.int .u16) .n r_11.1), (18, .val (.int .i64) .n r_11.2.2), (20, .val (.int .u16) .n r_12.2.1)]) (by subst hA; subst eq1; rfl) ?_
      clear pq1 eq1 hr1 hM hA M A
      refine tr_rg hP tabOk hsp fun A hA M hM => ?_
      cbv
      obtain ⟨r_13, hr1, H⟩ := bind_out H
      obtain ⟨pq1, eq1⟩ := hc8 hr1
      refine ⟨by subst hA; subst eq1; exact pq1, hM _ ?_⟩
      refine tr_seq ?_
      refine tr_keep [4, 13, 16, 18, 20, 23, 24] (σ' := mkSl 157 0 [(4, .val (.box (.list (.int .u16))) (.b .n) t0_1), (13, .val (.int .i64) .n r_8), (16, .val (.int .u16) .n r_11.1), (18, .val (.int .i64) .n r_11.2.2), (20, .val (.int .u16) .n r_12.2.1), (23, .val (.int .u16) .n r_13.2.1), (24, .val (.int .i64) .n r_13.2.2)]) (by subst hA; subst eq1; rfl) ?_
      clear pq1 eq1 hr1 hM hA M A
      refine tr_rg hP tabOk hsp fun A hA M hM => ?_
      cbv
      refine hM _ ?_
      refine tr_seq ?_
      refine tr_seq ?_
      refine tr_keep [4, 13, 16, 18, 20, 23, 24, 25] (σ' := mkSl 157 0 [(4, .val (.box (.list (.int .u16))) (.b .n) t0_1), (13, .val (.int .i64) .n r_8), (16, .val (.int .u16) .n r_11.1), (18, .val (.int .i64) .n r_11.2.2), (20, .val (.int .u16) .n r_12.2.1), (23, .val (.int .u16) .n r_13.2.1), (24, .val (.int .i64) .n r_13.2.2), (25, .clo 11 [.r 4 [.d]])]) (by subst hA; rfl) ?_
      clear hM hA M A
      refine tr_rg hP tabOk hsp fun A hA M hM => ?_
      cbv
      obtain ⟨r_14, er1, H⟩ := letO_out H
      obtain ⟨ob1, H⟩ := ck_out H
      have eq1 := er1.trans hd11
      obtain ⟨r_15, er2, H⟩ := letO_out H
      obtain ⟨ob2, H⟩ := ck_out H
      have eq2 := er2.trans hd11
      obtain ⟨r_16, er3, H⟩ := letO_out H
      obtain ⟨ob3, H⟩ := ck_out H
      have eq3 := er3.trans hd11
      refine ⟨by subst hA; subst eq1; exact fun h0 => hi11 (ob1 h0), by subst hA; subst eq1; subst eq2; exact fun h0 => hi11 (ob2 h0), by subst hA; subst eq1; subst eq2; subst eq3; exact fun h0 => hi11 (ob3 h0), hM _ ?_⟩
      refine tr_keep [4, 13, 16, 20, 23, 25, 113] (σ' := mkSl 157 0 [(4, .val (.box (.list (.int .u16))) (.b .n) t0_1), (13, .val (.int .i64) .n r_8), (16, .val (.int .u16) .n r_11.1), (20, .val (.int .u16) .n r_12.2.1), (23, .val (.int .u16) .n r_13.2.1), (25, .clo 11 [.r 4 [.d]]), (113, .val (.bool) .n (((((r_11.2.2 != (0 : Int)) || (r_13.2.2 != (0 : Int))) || (decide (r_14 < (0 : Int)))) || (decide (r_15 < (0 : Int)))) || (decide (r_16 < (0 : Int)))))]) (by subst hA; subst eq1; subst eq2; subst eq3; rfl) ?_
      clear ob3 eq3 er3 ob2 eq2 er2 ob1 eq1 er1 hM hA M A
      refine tr_cond rfl (fun hc => ?_) (fun hc => ?_)
      · replace H := if_t H hc
        refine tr_keep [4, 13, 16, 20, 23, 25] (σ' := mkSl 157 0 [(4, .val (.box (.list (.int .u16))) (.b .n) t0_1), (13, .val (.int .i64) .n r_8), (16, .val (.int .u16) .n r_11.1), (20, .val (.int .u16) .n r_12.2.1), (23, .val (.int .u16) .n r_13.2.1), (25, .clo 11 [.r 4 [.d]])]) rfl ?_
        refine tr_seq ?_
        refine tr_rg hP tabOk hsp fun A hA M hM => ?_
        cbv
        refine hM _ ?_
        refine tr_ret ?_
        have hr := Option.some.inj H
        subst hr
        subst hA
        exact rfl
      · replace H := if_f H hc
        refine tr_keep [4, 13, 16, 20, 23, 25] (σ' := mkSl 157 0 [(4, .val (.box (.list (.int .u16))) (.b .n) t0_1), (13, .val (.int .i64) .n r_8), (16, .val (.int .u16) .n r_11.1), (20, .val (.int .u16) .n r_12.2.1), (23, .val (.int .u16) .n r_13.2.1), (25, .clo 11 [.r 4 [.d]])]) rfl ?_
        refine tr_skip ?_
        refine tr_seq ?_
        refine tr_rg hP tabOk hsp fun A hA M hM => ?_
        cbv
        obtain ⟨r_17, hr1, H⟩ := bind_out H
        obtain ⟨pq1, eq1⟩ := hc11 hr1
        obtain ⟨r_18, hr2, H⟩ := bind_out H
        obtain ⟨pq2, eq2⟩ := hc8 hr2
        refine ⟨by subst hA; subst eq1; exact pq1, by subst hA; subst eq1; subst eq2; exact pq2, hM _ ?_⟩
        refine tr_seq ?_
        refine tr_keep [4, 13, 20, 23, 25, 27] (σ' := mkSl 157 0 [(4, .val (.box (.list (.int .u16))) (.b .n) t0_1), (13, .val (.int .i64) .n r_8), (20, .val (.int .u16) .n r_12.2.1), (23, .val (.int .u16) .n r_13.2.1), (25, .clo 11 [.r 4 [.d]]), (27, .val (.int .u16) .n r_18.2.1)]) (by subst hA; subst eq1; subst eq2; rfl) ?_
        clear pq2 eq2 hr2 pq1 eq1 hr1 hM hA M A
        refine tr_rg hP tabOk hsp fun A hA M hM => ?_
        cbv
        obtain ⟨r_19, hr1, H⟩ := bind_out H
        obtain ⟨pq1, eq1⟩ := hc11 hr1
        obtain ⟨r_20, hr2, H⟩ := bind_out H
        obtain ⟨pq2, eq2⟩ := hc11 hr2
        obtain ⟨r_21, hr3, H⟩ := bind_out H
        obtain ⟨pq3, eq3⟩ := hc8 hr3
        refine ⟨by subst hA; subst eq1; exact pq1, by subst hA; subst eq1; subst eq2; exact pq2, by subst hA; subst eq1; subst eq2; subst eq3; exact pq3, hM _ ?_⟩
        refine tr_seq ?_
        refine tr_keep [4, 13, 20, 25, 27, 29] (σ' := mkSl 157 0 [(4, .val (.box (.list (.int .u16))) (.b .n) t0_1), (13, .val (.int .i64) .n r_8), (20, .val (.int .u16) .n r_12.2.1), (25, .clo 11 [.r 4 [.d]]), (27, .val (.int .u16) .n r_18.2.1), (29, .val (.int .u16) .n r_21.1)]) (by subst hA; subst eq1; subst eq2; subst eq3; rfl) ?_
        clear pq3 eq3 hr3 pq2 eq2 hr2 pq1 eq1 hr1 hM hA M A
        refine tr_rg hP tabOk hsp fun A hA M hM => ?_
        cbv
        obtain ⟨r_22, hr1, H⟩ := bind_out H
        obtain ⟨pq1, eq1⟩ := hc11 hr1
        obtain ⟨r_23, hr2, H⟩ := bind_out H
        obtain ⟨pq2, eq2⟩ := hc8 hr2
        refine ⟨by subst hA; subst eq1; exact pq1, by subst hA; subst eq1; subst eq2; exact pq2, hM _ ?_⟩
        refine tr_seq ?_
        refine tr_keep [4, 13, 27, 29, 32] (σ' := mkSl 157 0 [(4, .val (.box (.list (.int .u16))) (.b .n) t0_1), (13, .val (.int .i64) .n r_8), (27, .val (.int .u16) .n r_18.2.1), (29, .val (.int .u16) .n r_21.1), (32, .val (.int .u16) .n r_23.1)]) (by subst hA; subst eq1; subst eq2; rfl) ?_
        clear pq2 eq2 hr2 pq1 eq1 hr1 hM hA M A
        refine tr_rg hP tabOk hsp fun A hA M hM => ?_
        cbv
        obtain ⟨ob1, H⟩ := ck_out H
        refine ⟨by subst hA; exact ob1, hM _ ?_⟩
        refine tr_ret ?_
        have hr := Option.some.inj H
        subst hr
        subst hA
        exact rfl
theorem LatLaws_sp : ∃ (pg : PT.denL [.list (.int .u16), .int .i64, .int .i64, .int .i64] → Prop) (fg : PT.denL [.list (.int .u16), .int .i64, .int .i64, .int .i64] → PT.denL [.bool]), SpecRuns Try.prog 3 ⟨[.list (.int .u16), .int .i64, .int .i64, .int .i64], [.v, .v, .v, .v], [.bool], [.n], pg, fg⟩ ∧ (∀ {a1 : List Int} {a2 : Int} {a3 : Int} {a4 : Int} {y : Bool}, LatLaws a1 a2 a3 a4 = some y → pg (a1, a2, a3, a4, ()) ∧ y = (fg (a1, a2, a3, a4, ())).1) ∧ (∀ {a1 : List Int} {a2 : Int} {a3 : Int} {a4 : Int}, (LatLaws a1 a2 a3 a4).isSome = true → pg (a1, a2, a3, a4, ())) ∧ ∀ {a1 : List Int} {a2 : Int} {a3 : Int} {a4 : Int}, (LatLaws a1 a2 a3 a4).getD false = (fg (a1, a2, a3, a4, ())).1 := by
  obtain ⟨pg, fg, h, hc, hi, hd⟩ := spec_hide LatLaws_runs
  refine ⟨pg, fg, h, ?_, ?_, ?_⟩
  · intro a1 a2 a3 a4 y e
    obtain ⟨h1, h2⟩ := hc (a1, a2, a3, a4, ()) (y, ()) (congrArg (Option.map fun r => (r, ())) e)
    exact ⟨h1, by first | (rw [h2]; done) | (rw [h2]; rfl)⟩
  · intro a1 a2 a3 a4
    intro e
    exact hi (a1, a2, a3, a4, ()) (map_isSome e)
  · intro a1 a2 a3 a4
    rw [hd (a1, a2, a3, a4, ())]
    cases LatLaws a1 a2 a3 a4 <;> rfl
end Go.Proofs.Ytaachifkgcdeoaa.Lt
