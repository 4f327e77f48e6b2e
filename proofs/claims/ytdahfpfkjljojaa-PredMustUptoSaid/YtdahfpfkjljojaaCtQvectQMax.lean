/- Functions of the program as functions that may fail, and that the code computes them (printed). Each theorem bears its conditions itself. -/
import Derived.Test.YtdahfpfkjljojaaCtDefs
import Derived.Test.YtdahfpfkjljojaaCtTab
open Go Go.Proofs.Ytdahfpfkjljojaa.Sy Go.Proofs
set_option maxHeartbeats 4000000
set_option maxRecDepth 100000
set_option cbv.maxSteps 10000000
set_option linter.unusedVariables false
set_option linter.unusedSimpArgs false
namespace Go.Proofs.Ytdahfpfkjljojaa.Ct
theorem vect_Max_runs : SpecRuns Try.prog 17 (oSpec [.arr 6 (.int .i64), .arr 6 (.int .i64)] [.v, .v] [.arr 6 (.int .i64)] [.n] fun x => (vect_Max x.1 x.2.1).map fun r => (r, ())) := by
  have hsp : SpecsOk Try.prog [] := specsOk_nil
  refine runs_of_o tabOk Try.func17 rfl (Nat.le_of_ble_eq_true rfl) rfl ?_
  rintro E ⟨(a_1 : List Int), (b_2 : List Int), ⟨⟩⟩ y hP H hw
  obtain ⟨z, H1, rfl⟩ := map_out H
  replace H : vect_Max a_1 b_2 = some z := H1
  clear hw H1
  unfold vect_Max at H
  refine tr_keep [0, 1] (σ' := mkSl 20 0 [(0, .val (.arr 6 (.int .i64)) .n a_1), (1, .val (.arr 6 (.int .i64)) .n b_2)]) rfl ?_
  refine tr_seq ?_
  refine tr_rg hP tabOk hsp fun A hA M hM => ?_
  cbv
  refine hM _ ?_
  refine tr_seq ?_
  refine tr_seq ?_
  refine tr_keepL [2, 3, 4] (fun t4_3 : List Int => mkSl 20 0 [(2, .val (.box (.arr 6 (.int .i64))) (.b .n) a_1), (3, .val (.box (.arr 6 (.int .i64))) (.b .n) b_2), (4, .val (.box (.arr 6 (.int .i64))) (.b .n) t4_3)]) H (by subst hA; rfl) (fun t4_3 H => ?_)
  clear hM hA M A
  refine tr_rg hP tabOk hsp fun A hA M hM => ?_
  cbv
  refine hM _ ?_
  refine tr_block ?_
  refine tr_keep [2, 3, 4, 6] (σ' := mkSl 20 0 [(2, .val (.box (.arr 6 (.int .i64))) (.b .n) a_1), (3, .val (.box (.arr 6 (.int .i64))) (.b .n) b_2), (4, .val (.box (.arr 6 (.int .i64))) (.b .n) t4_3), (6, .val (.int .i64) .n (0 : Int))]) (by subst hA; rfl) ?_
  clear hM hA M A
  obtain ⟨q_7, hq, H⟩ := bind_out H
  refine tr_loopB 0 (fun x : List Int × Int => vect_Max_L1 b_2 x.1 x.2) (fun x : List Int × Int => mkSl 20 0 [(2, .val (.box (.arr 6 (.int .i64))) (.b .n) x.1), (3, .val (.box (.arr 6 (.int .i64))) (.b .n) b_2), (4, .val (.box (.arr 6 (.int .i64))) (.b .n) t4_3), (6, .val (.int .i64) .n x.2)]) [2, 3, 4, 6] (fun q_7 : List Int => mkSl 20 0 [(2, .val (.box (.arr 6 (.int .i64))) (.b .n) q_7), (4, .val (.box (.arr 6 (.int .i64))) (.b .n) t4_3)]) [2, 4] hq rfl (fun σ' h => ?_) (fun x r1 H => ?_)
  · refine tr_keep [2, 4] h ?_
    refine tr_seq ?_
    refine tr_rg hP tabOk hsp fun A hA M hM => ?_
    cbv
    refine hM _ ?_
    refine tr_ret ?_
    have hr := Option.some.inj H
    subst hr
    subst hA
    exact rfl
  · obtain ⟨a_4, t6_5⟩ := x
    replace H : vect_Max_L1 b_2 a_4 t6_5 = some r1 := H
    unfold vect_Max_L1 at H
    refine tr_seq ?_
    refine tr_rg hP tabOk hsp fun A hA M hM => ?_
    cbv
    refine hM _ ?_
    refine tr_seq ?_
    refine tr_keep [2, 3, 4, 6, 7] (σ' := mkSl 20 0 [(2, .val (.box (.arr 6 (.int .i64))) (.b .n) a_4), (3, .val (.box (.arr 6 (.int .i64))) (.b .n) b_2), (4, .val (.box (.arr 6 (.int .i64))) (.b .n) t4_3), (6, .val (.int .i64) .n t6_5), (7, .val (.bool) .n (decide (t6_5 < (6 : Int))))]) (by subst hA; rfl) ?_
    clear hM hA M A
    refine tr_cond rfl (fun hc => ?_) (fun hc => ?_)
    · replace H := if_t H hc
      refine tr_keep [2, 3, 4, 6] (σ' := mkSl 20 0 [(2, .val (.box (.arr 6 (.int .i64))) (.b .n) a_4), (3, .val (.box (.arr 6 (.int .i64))) (.b .n) b_2), (4, .val (.box (.arr 6 (.int .i64))) (.b .n) t4_3), (6, .val (.int .i64) .n t6_5)]) rfl ?_
      refine tr_skip ?_
      refine tr_seq ?_
      refine tr_block ?_
      refine tr_seq ?_
      refine tr_rg hP tabOk hsp fun A hA M hM => ?_
      cbv
      refine hM _ ?_
      refine tr_keep [2, 3, 4, 5, 6] (σ' := mkSl 20 0 [(2, .val (.box (.arr 6 (.int .i64))) (.b .n) a_4), (3, .val (.box (.arr 6 (.int .i64))) (.b .n) b_2), (4, .val (.box (.arr 6 (.int .i64))) (.b .n) t4_3), (5, .val (.int .i64) .n t6_5), (6, .val (.int .i64) .n t6_5)]) (by subst hA; rfl) ?_
      clear hM hA M A
      refine tr_rg hP tabOk hsp fun A hA M hM => ?_
      cbv
      obtain ⟨ob1, H⟩ := ck_out H
      obtain ⟨ob2, H⟩ := ck_out H
      obtain ⟨ob3, H⟩ := ck_out H
      refine ⟨by subst hA; exact ob1, by subst hA; exact ob2, by subst hA; exact ob3, hM _ ?_⟩
      refine tr_keepL [2, 3, 4, 6] (fun a_8 : List Int => mkSl 20 0 [(2, .val (.box (.arr 6 (.int .i64))) (.b .n) a_8), (3, .val (.box (.arr 6 (.int .i64))) (.b .n) b_2), (4, .val (.box (.arr 6 (.int .i64))) (.b .n) t4_3), (6, .val (.int .i64) .n t6_5)]) H (by subst hA; rfl) (fun a_8 H => ?_)
      clear ob3 ob2 ob1 hM hA M A
      refine tr_rg hP tabOk hsp fun A hA M hM => ?_
      cbv
      refine hM _ ?_
      exact Exists.intro _ (And.intro (Option.some.inj H).symm (by subst hA; rfl))
    · replace H := if_f H hc
      refine tr_keep [2, 3, 4, 6] (σ' := mkSl 20 0 [(2, .val (.box (.arr 6 (.int .i64))) (.b .n) a_4), (3, .val (.box (.arr 6 (.int .i64))) (.b .n) b_2), (4, .val (.box (.arr 6 (.int .i64))) (.b .n) t4_3), (6, .val (.int .i64) .n t6_5)]) rfl ?_
      refine tr_exit ?_
      exact And.intro rfl (Exists.intro _ (And.intro (Option.some.inj H).symm (by rfl)))
theorem vect_Max_sp : ∃ (pg : PT.denL [.arr 6 (.int .i64), .arr 6 (.int .i64)] → Prop) (fg : PT.denL [.arr 6 (.int .i64), .arr 6 (.int .i64)] → PT.denL [.arr 6 (.int .i64)]), SpecRuns Try.prog 17 ⟨[.arr 6 (.int .i64), .arr 6 (.int .i64)], [.v, .v], [.arr 6 (.int .i64)], [.n], pg, fg⟩ ∧ (∀ {a1 : List Int} {a2 : List Int} {y : List Int}, vect_Max a1 a2 = some y → pg (a1, a2, ()) ∧ y = (fg (a1, a2, ())).1) ∧ (∀ {a1 : List Int} {a2 : List Int}, (vect_Max a1 a2).isSome = true → pg (a1, a2, ())) ∧ ∀ {a1 : List Int} {a2 : List Int}, (vect_Max a1 a2).getD (List.replicate 6 (0 : Int)) = (fg (a1, a2, ())).1 := by
  obtain ⟨pg, fg, h, hc, hi, hd⟩ := spec_hide vect_Max_runs
  refine ⟨pg, fg, h, ?_, ?_, ?_⟩
  · intro a1 a2 y e
    obtain ⟨h1, h2⟩ := hc (a1, a2, ()) (y, ()) (congrArg (Option.map fun r => (r, ())) e)
    exact ⟨h1, by first | (rw [h2]; done) | (rw [h2]; rfl)⟩
  · intro a1 a2
    intro e
    exact hi (a1, a2, ()) (map_isSome e)
  · intro a1 a2
    rw [hd (a1, a2, ())]
    cases vect_Max a1 a2 <;> rfl
end Go.Proofs.Ytdahfpfkjljojaa.Ct
