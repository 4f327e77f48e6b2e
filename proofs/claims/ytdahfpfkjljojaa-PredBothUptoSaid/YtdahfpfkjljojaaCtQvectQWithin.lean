/- Functions of the program as functions that may fail, and that the code computes them (printed). Each theorem bears its conditions itself. -/
import Derived.Test.YtdahfpfkjljojaaCtDefs
import Derived.Test.YtdahfpfkjljojaaCtTab
open Go Go.Proofs.Ytdahfpfkjljojaa.Sy Go.Proofs
set_option maxHeartbeats 4000000
set_option maxRecDepth 100000
set_option cbv.maxSteps 10000000
set_option linter.unusedVariables false
set_option linter.unusedSimpArgs false
namespace Go.Proofs.Ytdahfpfkjljojaa.Ct
theorem vect_Within_runs : SpecRuns Try.prog 18 (oSpec [.arr 6 (.int .i64), .arr 6 (.int .i64)] [.v, .v] [.bool] [.n] fun x => (vect_Within x.1 x.2.1).map fun r => (r, ())) := by
  have hsp : SpecsOk Try.prog [] := specsOk_nil
  refine runs_of_o tabOk Try.func18 rfl (Nat.le_of_ble_eq_true rfl) rfl ?_
  rintro E ⟨(a_1 : List Int), (b_2 : List Int), ⟨⟩⟩ y hP H hw
  obtain ⟨z, H1, rfl⟩ := map_out H
  replace H : vect_Within a_1 b_2 = some z := H1
  clear hw H1
  unfold vect_Within at H
  refine tr_keep [0, 1] (σ' := mkSl 17 0 [(0, .val (.arr 6 (.int .i64)) .n a_1), (1, .val (.arr 6 (.int .i64)) .n b_2)]) rfl ?_
  refine tr_seq ?_
  refine tr_rg hP tabOk hsp fun A hA M hM => ?_
  cbv
  refine hM _ ?_
  refine tr_seq ?_
  refine tr_seq ?_
  refine tr_keep [2, 3] (σ' := mkSl 17 0 [(2, .val (.box (.arr 6 (.int .i64))) (.b .n) a_1), (3, .val (.box (.arr 6 (.int .i64))) (.b .n) b_2)]) (by subst hA; rfl) ?_
  clear hM hA M A
  refine tr_rg hP tabOk hsp fun A hA M hM => ?_
  cbv
  refine hM _ ?_
  refine tr_block ?_
  refine tr_keep [2, 3, 6] (σ' := mkSl 17 0 [(2, .val (.box (.arr 6 (.int .i64))) (.b .n) a_1), (3, .val (.box (.arr 6 (.int .i64))) (.b .n) b_2), (6, .val (.int .i64) .n (0 : Int))]) (by subst hA; rfl) ?_
  clear hM hA M A
  obtain ⟨q, hq, Hl, Hr⟩ := bindE_out H
  refine tr_loopE 0 (fun x : Int => vect_Within_L1 a_1 b_2 x) (fun x : Int => mkSl 17 0 [(2, .val (.box (.arr 6 (.int .i64))) (.b .n) a_1), (3, .val (.box (.arr 6 (.int .i64))) (.b .n) b_2), (6, .val (.int .i64) .n x)]) [2, 3, 6] (fun q_4 : Unit => mkSl 17 0 []) [] hq rfl Hr (fun q_4 hl σ' h => ?_) (fun x r1 H => ?_)
  · replace H := Hl q_4 hl
    refine tr_keep [] h ?_
    refine tr_seq ?_
    refine tr_rg hP tabOk hsp fun A hA M hM => ?_
    cbv
    refine hM _ ?_
    refine tr_ret ?_
    have hr := Option.some.inj H
    subst hr
    subst hA
    exact rfl
  · obtain ⟨t6_3, rfl⟩ : ∃ v, v = x := ⟨x, rfl⟩
    replace H : vect_Within_L1 a_1 b_2 t6_3 = some r1 := H
    unfold vect_Within_L1 at H
    refine tr_seq ?_
    refine tr_rg hP tabOk hsp fun A hA M hM => ?_
    cbv
    refine hM _ ?_
    refine tr_seq ?_
    refine tr_keep [2, 3, 6, 7] (σ' := mkSl 17 0 [(2, .val (.box (.arr 6 (.int .i64))) (.b .n) a_1), (3, .val (.box (.arr 6 (.int .i64))) (.b .n) b_2), (6, .val (.int .i64) .n t6_3), (7, .val (.bool) .n (decide (t6_3 < (6 : Int))))]) (by subst hA; rfl) ?_
    clear hM hA M A
    refine tr_cond rfl (fun hc => ?_) (fun hc => ?_)
    · replace H := if_t H hc
      refine tr_keep [2, 3, 6] (σ' := mkSl 17 0 [(2, .val (.box (.arr 6 (.int .i64))) (.b .n) a_1), (3, .val (.box (.arr 6 (.int .i64))) (.b .n) b_2), (6, .val (.int .i64) .n t6_3)]) rfl ?_
      refine tr_skip ?_
      refine tr_seq ?_
      refine tr_block ?_
      refine tr_seq ?_
      refine tr_rg hP tabOk hsp fun A hA M hM => ?_
      cbv
      refine hM _ ?_
      refine tr_seq ?_
      refine tr_keep [2, 3, 5, 6] (σ' := mkSl 17 0 [(2, .val (.box (.arr 6 (.int .i64))) (.b .n) a_1), (3, .val (.box (.arr 6 (.int .i64))) (.b .n) b_2), (5, .val (.int .i64) .n t6_3), (6, .val (.int .i64) .n t6_3)]) (by subst hA; rfl) ?_
      clear hM hA M A
      refine tr_rg hP tabOk hsp fun A hA M hM => ?_
      cbv
      obtain ⟨ob1, H⟩ := ck_out H
      obtain ⟨ob2, H⟩ := ck_out H
      refine ⟨by subst hA; exact ob1, by subst hA; exact ob2, hM _ ?_⟩
      refine tr_keep [2, 3, 6, 15] (σ' := mkSl 17 0 [(2, .val (.box (.arr 6 (.int .i64))) (.b .n) a_1), (3, .val (.box (.arr 6 (.int .i64))) (.b .n) b_2), (6, .val (.int .i64) .n t6_3), (15, .val (.bool) .n (decide ((a_1.getD t6_3.toNat (0 : Int)) > (b_2.getD t6_3.toNat (0 : Int)))))]) (by subst hA; rfl) ?_
      clear ob2 ob1 hM hA M A
      refine tr_cond rfl (fun hc => ?_) (fun hc => ?_)
      · replace H := if_t H hc
        refine tr_keep [2, 3, 6] (σ' := mkSl 17 0 [(2, .val (.box (.arr 6 (.int .i64))) (.b .n) a_1), (3, .val (.box (.arr 6 (.int .i64))) (.b .n) b_2), (6, .val (.int .i64) .n t6_3)]) rfl ?_
        refine tr_seq ?_
        refine tr_rg hP tabOk hsp fun A hA M hM => ?_
        cbv
        refine hM _ ?_
        refine tr_ret ?_
        have hr := Option.some.inj H
        refine Exists.intro _ (And.intro hr.symm (fun hr => ?_))
        subst hr
        subst hA
        exact rfl
      · replace H := if_f H hc
        refine tr_keep [2, 3, 6] (σ' := mkSl 17 0 [(2, .val (.box (.arr 6 (.int .i64))) (.b .n) a_1), (3, .val (.box (.arr 6 (.int .i64))) (.b .n) b_2), (6, .val (.int .i64) .n t6_3)]) rfl ?_
        refine tr_skip ?_
        refine tr_rg hP tabOk hsp fun A hA M hM => ?_
        cbv
        refine hM _ ?_
        exact Exists.intro _ (And.intro (Option.some.inj H).symm (by subst hA; rfl))
    · replace H := if_f H hc
      refine tr_keep [2, 3, 6] (σ' := mkSl 17 0 [(2, .val (.box (.arr 6 (.int .i64))) (.b .n) a_1), (3, .val (.box (.arr 6 (.int .i64))) (.b .n) b_2), (6, .val (.int .i64) .n t6_3)]) rfl ?_
      refine tr_exit ?_
      exact And.intro rfl (Exists.intro _ (And.intro (Option.some.inj H).symm (by rfl)))
theorem vect_Within_sp : ∃ (pg : PT.denL [.arr 6 (.int .i64), .arr 6 (.int .i64)] → Prop) (fg : PT.denL [.arr 6 (.int .i64), .arr 6 (.int .i64)] → PT.denL [.bool]), SpecRuns Try.prog 18 ⟨[.arr 6 (.int .i64), .arr 6 (.int .i64)], [.v, .v], [.bool], [.n], pg, fg⟩ ∧ (∀ {a1 : List Int} {a2 : List Int} {y : Bool}, vect_Within a1 a2 = some y → pg (a1, a2, ()) ∧ y = (fg (a1, a2, ())).1) ∧ (∀ {a1 : List Int} {a2 : List Int}, (vect_Within a1 a2).isSome = true → pg (a1, a2, ())) ∧ ∀ {a1 : List Int} {a2 : List Int}, (vect_Within a1 a2).getD false = (fg (a1, a2, ())).1 := by
  obtain ⟨pg, fg, h, hc, hi, hd⟩ := spec_hide vect_Within_runs
  refine ⟨pg, fg, h, ?_, ?_, ?_⟩
  · intro a1 a2 y e
    obtain ⟨h1, h2⟩ := hc (a1, a2, ()) (y, ()) (congrArg (Option.map fun r => (r, ())) e)
    exact ⟨h1, by first | (rw [h2]; done) | (rw [h2]; rfl)⟩
  · intro a1 a2
    intro e
    exact hi (a1, a2, ()) (map_isSome e)
  · intro a1 a2
    rw [hd (a1, a2, ())]
    cases vect_Within a1 a2 <;> rfl
end Go.Proofs.Ytdahfpfkjljojaa.Ct
