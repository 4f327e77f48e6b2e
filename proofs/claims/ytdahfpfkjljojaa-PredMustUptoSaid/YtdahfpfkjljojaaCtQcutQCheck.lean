/- Functions of the program as functions that may fail, and that the code computes them (printed). Each theorem bears its conditions itself. -/
import Derived.Test.YtdahfpfkjljojaaCtDefs
import Derived.Test.YtdahfpfkjljojaaCtTab
import Derived.Test.YtdahfpfkjljojaaCtQstampQCheck
import Derived.Test.YtdahfpfkjljojaaCtQvectQWithin
import Derived.Test.YtdahfpfkjljojaaCtQcutQsizes
open Go Go.Proofs.Ytdahfpfkjljojaa.Sy Go.Proofs
set_option maxHeartbeats 4000000
set_option maxRecDepth 100000
set_option cbv.maxSteps 10000000
set_option linter.unusedVariables false
set_option linter.unusedSimpArgs false
namespace Go.Proofs.Ytdahfpfkjljojaa.Ct
theorem cut_Check_runs : SpecRuns Try.prog 34 (oSpec [.list (.st [.int .i64, .int .i64, .int .i64]), .arr 6 (.int .i64)] [.v, .v] [.int .i64] [.n] fun x => (cut_Check x.1 x.2.1).map fun r => (r, ())) := by
  obtain ⟨pg14, fg14, hs14, hc14, hi14, hd14⟩ := stamp_Check_sp
  obtain ⟨pg18, fg18, hs18, hc18, hi18, hd18⟩ := vect_Within_sp
  obtain ⟨pg37, fg37, hs37, hc37, hi37, hd37⟩ := cut_sizes_sp
  have hsp : SpecsOk Try.prog [(14, ⟨[.list (.st [.int .i64, .int .i64, .int .i64])], [.v], [.int .i64], [.n], pg14, fg14⟩), (18, ⟨[.arr 6 (.int .i64), .arr 6 (.int .i64)], [.v, .v], [.bool], [.n], pg18, fg18⟩), (37, ⟨[.list (.st [.int .i64, .int .i64, .int .i64])], [.v], [.arr 6 (.int .i64)], [.n], pg37, fg37⟩)] := (specsOk_cons Try.func14 (by kernel_rfl) (by kernel_rfl) hs14 (specsOk_cons Try.func18 (by kernel_rfl) (by kernel_rfl) hs18 (specsOk_cons Try.func37 (by kernel_rfl) (by kernel_rfl) hs37 specsOk_nil)))
  refine runs_of_o tabOk Try.func34 rfl (Nat.le_of_ble_eq_true rfl) rfl ?_
  rintro E ⟨(h_1 : List ((Int × Int × Int × Unit))), (c_2 : List Int), ⟨⟩⟩ y hP H hw
  obtain ⟨z, H1, rfl⟩ := map_out H
  replace H : cut_Check h_1 c_2 = some z := H1
  clear hw H1
  unfold cut_Check at H
  refine tr_keep [0, 1] (σ' := mkSl 22 0 [(0, .val (.list (.st [.int .i64, .int .i64, .int .i64])) .n h_1), (1, .val (.arr 6 (.int .i64)) .n c_2)]) rfl ?_
  refine tr_seq ?_
  refine tr_rg hP tabOk hsp fun A hA M hM => ?_
  cbv
  refine hM _ ?_
  refine tr_seq ?_
  refine tr_seq ?_
  refine tr_keep [0, 3] (σ' := mkSl 22 0 [(0, .val (.list (.st [.int .i64, .int .i64, .int .i64])) .n h_1), (3, .val (.box (.arr 6 (.int .i64))) (.b .n) c_2)]) (by subst hA; rfl) ?_
  clear hM hA M A
  refine tr_rg hP tabOk hsp fun A hA M hM => ?_
  cbv
  obtain ⟨r_3, hr1, H⟩ := bind_out H
  obtain ⟨pq1, eq1⟩ := hc14 hr1
  refine ⟨by subst hA; subst eq1; exact pq1, hM _ ?_⟩
  refine tr_seq ?_
  refine tr_keep [0, 3, 5] (σ' := mkSl 22 0 [(0, .val (.list (.st [.int .i64, .int .i64, .int .i64])) .n h_1), (3, .val (.box (.arr 6 (.int .i64))) (.b .n) c_2), (5, .val (.int .i64) .n r_3)]) (by subst hA; subst eq1; rfl) ?_
  clear pq1 eq1 hr1 hM hA M A
  refine tr_rg hP tabOk hsp fun A hA M hM => ?_
  cbv
  refine hM _ ?_
  refine tr_keep [0, 3, 5, 9] (σ' := mkSl 22 0 [(0, .val (.list (.st [.int .i64, .int .i64, .int .i64])) .n h_1), (3, .val (.box (.arr 6 (.int .i64))) (.b .n) c_2), (5, .val (.int .i64) .n r_3), (9, .val (.bool) .n (r_3 != (0 : Int)))]) (by subst hA; rfl) ?_
  clear hM hA M A
  refine tr_cond rfl (fun hc => ?_) (fun hc => ?_)
  · replace H := if_t H hc
    refine tr_keep [0, 3, 5] (σ' := mkSl 22 0 [(0, .val (.list (.st [.int .i64, .int .i64, .int .i64])) .n h_1), (3, .val (.box (.arr 6 (.int .i64))) (.b .n) c_2), (5, .val (.int .i64) .n r_3)]) rfl ?_
    refine tr_seq ?_
    refine tr_rg hP tabOk hsp fun A hA M hM => ?_
    cbv
    refine hM _ ?_
    refine tr_ret ?_
    have hr := Option.some.inj H
    subst hr
    subst hA
    exact rfl
  · replace H := if_f H hc
    refine tr_keep [0, 3, 5] (σ' := mkSl 22 0 [(0, .val (.list (.st [.int .i64, .int .i64, .int .i64])) .n h_1), (3, .val (.box (.arr 6 (.int .i64))) (.b .n) c_2), (5, .val (.int .i64) .n r_3)]) rfl ?_
    refine tr_skip ?_
    refine tr_seq ?_
    refine tr_seq ?_
    refine tr_rg hP tabOk hsp fun A hA M hM => ?_
    cbv
    obtain ⟨r_4, hr1, H⟩ := bind_out H
    obtain ⟨pq1, eq1⟩ := hc18 hr1
    obtain ⟨r_5, er2, H⟩ := letO_out H
    obtain ⟨ob2, H⟩ := ck_out H
    have eq2 := er2.trans hd37
    obtain ⟨r_6, er3, H⟩ := letO_out H
    obtain ⟨ob3, H⟩ := ck_out H
    have eq3 := er3.trans hd18
    refine ⟨by subst hA; subst eq1; exact pq1, by subst hA; subst eq1; subst eq2; exact fun h0 => hi37 (ob2 h0), by subst hA; subst eq1; subst eq2; subst eq3; exact fun h0 => hi18 (ob3 h0), hM _ ?_⟩
    refine tr_keep [21] (σ' := mkSl 22 0 [(21, .val (.bool) .n ((!r_4) || (!r_6)))]) (by subst hA; subst eq1; subst eq2; subst eq3; rfl) ?_
    clear ob3 eq3 er3 ob2 eq2 er2 pq1 eq1 hr1 hM hA M A
    refine tr_cond rfl (fun hc => ?_) (fun hc => ?_)
    · replace H := if_t H hc
      refine tr_keep [] (σ' := mkSl 22 0 []) rfl ?_
      refine tr_seq ?_
      refine tr_rg hP tabOk hsp fun A hA M hM => ?_
      cbv
      refine hM _ ?_
      refine tr_ret ?_
      have hr := Option.some.inj H
      subst hr
      subst hA
      exact rfl
    · replace H := if_f H hc
      refine tr_keep [] (σ' := mkSl 22 0 []) rfl ?_
      refine tr_skip ?_
      refine tr_seq ?_
      refine tr_rg hP tabOk hsp fun A hA M hM => ?_
      cbv
      refine hM _ ?_
      refine tr_ret ?_
      have hr := Option.some.inj H
      subst hr
      subst hA
      exact rfl
theorem cut_Check_sp : ∃ (pg : PT.denL [.list (.st [.int .i64, .int .i64, .int .i64]), .arr 6 (.int .i64)] → Prop) (fg : PT.denL [.list (.st [.int .i64, .int .i64, .int .i64]), .arr 6 (.int .i64)] → PT.denL [.int .i64]), SpecRuns Try.prog 34 ⟨[.list (.st [.int .i64, .int .i64, .int .i64]), .arr 6 (.int .i64)], [.v, .v], [.int .i64], [.n], pg, fg⟩ ∧ (∀ {a1 : List ((Int × Int × Int × Unit))} {a2 : List Int} {y : Int}, cut_Check a1 a2 = some y → pg (a1, a2, ()) ∧ y = (fg (a1, a2, ())).1) ∧ (∀ {a1 : List ((Int × Int × Int × Unit))} {a2 : List Int}, (cut_Check a1 a2).isSome = true → pg (a1, a2, ())) ∧ ∀ {a1 : List ((Int × Int × Int × Unit))} {a2 : List Int}, (cut_Check a1 a2).getD (0 : Int) = (fg (a1, a2, ())).1 := by
  obtain ⟨pg, fg, h, hc, hi, hd⟩ := spec_hide cut_Check_runs
  refine ⟨pg, fg, h, ?_, ?_, ?_⟩
  · intro a1 a2 y e
    obtain ⟨h1, h2⟩ := hc (a1, a2, ()) (y, ()) (congrArg (Option.map fun r => (r, ())) e)
    exact ⟨h1, by first | (rw [h2]; done) | (rw [h2]; rfl)⟩
  · intro a1 a2
    intro e
    exact hi (a1, a2, ()) (map_isSome e)
  · intro a1 a2
    rw [hd (a1, a2, ())]
    cases cut_Check a1 a2 <;> rfl
end Go.Proofs.Ytdahfpfkjljojaa.Ct
