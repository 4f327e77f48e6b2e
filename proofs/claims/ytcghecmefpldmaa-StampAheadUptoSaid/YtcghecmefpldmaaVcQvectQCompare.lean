/- Functions of the program as functions that may fail, and that the code computes them (printed). Each theorem bears its conditions itself. -/
import Derived.Test.YtcghecmefpldmaaVcDefs
import Derived.Test.YtcghecmefpldmaaVcTab
import Derived.Test.YtcghecmefpldmaaVcQvectQWithin
open Go Go.Proofs.Ytcghecmefpldmaa.Sy Go.Proofs
set_option maxHeartbeats 4000000
set_option maxRecDepth 100000
set_option linter.unusedVariables false
set_option linter.unusedSimpArgs false
namespace Go.Proofs.Ytcghecmefpldmaa.Vc
theorem vect_Compare_runs : SpecRuns Try.prog 12 (oSpec [.arr 6 (.int .i64), .arr 6 (.int .i64)] [.v, .v] [.int .i64] [.n] fun x => (vect_Compare x.1 x.2.1).map fun r => (r, ())) := by
  obtain ⟨pg13, fg13, hs13, hc13, hi13, hd13⟩ := vect_Within_sp
  have hsp : SpecsOk Try.prog [(13, ⟨[.arr 6 (.int .i64), .arr 6 (.int .i64)], [.v, .v], [.bool], [.n], pg13, fg13⟩)] := (specsOk_cons Try.func13 (by kernel_rfl) (by kernel_rfl) hs13 specsOk_nil)
  refine runs_of_o tabOk Try.func12 rfl (Nat.le_of_ble_eq_true rfl) rfl ?_
  rintro E ⟨(a_1 : List Int), (b_2 : List Int), ⟨⟩⟩ y hP H hw
  obtain ⟨z, H1, rfl⟩ := map_out H
  replace H : vect_Compare a_1 b_2 = some z := H1
  clear hw H1
  unfold vect_Compare at H
  refine tr_keep [0, 1] (σ' := mkSl 17 0 [(0, .val (.arr 6 (.int .i64)) .n a_1), (1, .val (.arr 6 (.int .i64)) .n b_2)]) rfl ?_
  refine tr_seq ?_
  refine tr_rg hP tabOk hsp fun A hA M hM => ?_
  cbv
  refine hM _ ?_
  refine tr_seq ?_
  refine tr_block ?_
  refine tr_seq ?_
  refine tr_keep [2, 3] (σ' := mkSl 17 0 [(2, .val (.box (.arr 6 (.int .i64))) (.b .n) a_1), (3, .val (.box (.arr 6 (.int .i64))) (.b .n) b_2)]) (by subst hA; rfl) ?_
  clear hM hA M A
  refine tr_rg hP tabOk hsp fun A hA M hM => ?_
  cbv
  refine hM _ ?_
  refine tr_keep [2, 3, 5] (σ' := mkSl 17 0 [(2, .val (.box (.arr 6 (.int .i64))) (.b .n) a_1), (3, .val (.box (.arr 6 (.int .i64))) (.b .n) b_2), (5, .val (.bool) .n (eqA6I a_1 b_2))]) (by subst hA; rfl) ?_
  clear hM hA M A
  refine tr_cond rfl (fun hc => ?_) (fun hc => ?_)
  · replace H := if_t H hc
    refine tr_keep [2, 3] (σ' := mkSl 17 0 [(2, .val (.box (.arr 6 (.int .i64))) (.b .n) a_1), (3, .val (.box (.arr 6 (.int .i64))) (.b .n) b_2)]) rfl ?_
    refine tr_seq ?_
    refine tr_rg hP tabOk hsp fun A hA M hM => ?_
    cbv
    refine hM _ ?_
    refine tr_ret ?_
    have hr := Option.some.inj H
    subst hr
    subst hA
    exact rfl
  · replace H := if_f H hc
    refine tr_keep [2, 3] (σ' := mkSl 17 0 [(2, .val (.box (.arr 6 (.int .i64))) (.b .n) a_1), (3, .val (.box (.arr 6 (.int .i64))) (.b .n) b_2)]) rfl ?_
    refine tr_seq ?_
    refine tr_rg hP tabOk hsp fun A hA M hM => ?_
    cbv
    obtain ⟨r_3, hr1, H⟩ := bind_out H
    obtain ⟨pq1, eq1⟩ := hc13 hr1
    refine ⟨by subst hA; subst eq1; exact pq1, hM _ ?_⟩
    refine tr_keep [2, 3, 9] (σ' := mkSl 17 0 [(2, .val (.box (.arr 6 (.int .i64))) (.b .n) a_1), (3, .val (.box (.arr 6 (.int .i64))) (.b .n) b_2), (9, .val (.bool) .n r_3)]) (by subst hA; subst eq1; rfl) ?_
    clear pq1 eq1 hr1 hM hA M A
    refine tr_cond rfl (fun hc => ?_) (fun hc => ?_)
    · replace H := if_t H hc
      refine tr_seq ?_
      refine tr_rg hP tabOk hsp fun A hA M hM => ?_
      cbv
      refine hM _ ?_
      refine tr_ret ?_
      have hr := Option.some.inj H
      subst hr
      subst hA
      exact rfl
    · replace H := if_f H hc
      refine tr_seq ?_
      refine tr_rg hP tabOk hsp fun A hA M hM => ?_
      cbv
      obtain ⟨r_4, hr1, H⟩ := bind_out H
      obtain ⟨pq1, eq1⟩ := hc13 hr1
      refine ⟨by subst hA; subst eq1; exact pq1, hM _ ?_⟩
      refine tr_keep [13] (σ' := mkSl 17 0 [(13, .val (.bool) .n r_4)]) (by subst hA; subst eq1; rfl) ?_
      clear pq1 eq1 hr1 hM hA M A
      refine tr_cond rfl (fun hc => ?_) (fun hc => ?_)
      · replace H := if_t H hc
        refine tr_seq ?_
        refine tr_rg hP tabOk hsp fun A hA M hM => ?_
        cbv
        refine hM _ ?_
        refine tr_ret ?_
        have hr := Option.some.inj H
        subst hr
        subst hA
        exact rfl
      · replace H := if_f H hc
        refine tr_skip ?_
        refine tr_seq ?_
        refine tr_rg hP tabOk hsp fun A hA M hM => ?_
        cbv
        refine hM _ ?_
        refine tr_ret ?_
        have hr := Option.some.inj H
        subst hr
        subst hA
        exact rfl
theorem vect_Compare_sp : ∃ (pg : PT.denL [.arr 6 (.int .i64), .arr 6 (.int .i64)] → Prop) (fg : PT.denL [.arr 6 (.int .i64), .arr 6 (.int .i64)] → PT.denL [.int .i64]), SpecRuns Try.prog 12 ⟨[.arr 6 (.int .i64), .arr 6 (.int .i64)], [.v, .v], [.int .i64], [.n], pg, fg⟩ ∧ (∀ {a1 : List Int} {a2 : List Int} {y : Int}, vect_Compare a1 a2 = some y → pg (a1, a2, ()) ∧ y = (fg (a1, a2, ())).1) ∧ (∀ {a1 : List Int} {a2 : List Int}, (vect_Compare a1 a2).isSome = true → pg (a1, a2, ())) ∧ ∀ {a1 : List Int} {a2 : List Int}, (vect_Compare a1 a2).getD (0 : Int) = (fg (a1, a2, ())).1 := by
  obtain ⟨pg, fg, h, hc, hi, hd⟩ := spec_hide vect_Compare_runs
  refine ⟨pg, fg, h, ?_, ?_, ?_⟩
  · intro a1 a2 y e
    obtain ⟨h1, h2⟩ := hc (a1, a2, ()) (y, ()) (congrArg (Option.map fun r => (r, ())) e)
    exact ⟨h1, by first | (rw [h2]; done) | (rw [h2]; rfl)⟩
  · intro a1 a2
    intro e
    exact hi (a1, a2, ()) (map_isSome e)
  · intro a1 a2
    rw [hd (a1, a2, ())]
    cases vect_Compare a1 a2 <;> rfl
end Go.Proofs.Ytcghecmefpldmaa.Vc
