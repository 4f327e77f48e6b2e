/- Functions of the program as functions that may fail, and that the code computes them (printed). Each theorem bears its conditions itself. -/
import Derived.Test.YtiddimfepemohaaRgDefs
import Derived.Test.YtiddimfepemohaaRgTab
open Go Go.Proofs.Ytiddimfepemohaa.Sy Go.Proofs
set_option maxHeartbeats 4000000
set_option maxRecDepth 100000
set_option cbv.maxSteps 10000000
set_option linter.unusedVariables false
set_option linter.unusedSimpArgs false
namespace Go.Proofs.Ytiddimfepemohaa.Rg
theorem ring_probe_runs : SpecRuns Try.prog 14 (oSpec [.list (.int .i64), .int .i64, .int .i64, .int .i64] [.v, .v, .v, .v] [.int .i64, .bool] [.n, .n] fun x => (ring_probe x.1 x.2.1 x.2.2.1 x.2.2.2.1).map fun r => (r.1, r.2, ())) := by
  have hsp : SpecsOk Try.prog [] := specsOk_nil
  refine runs_of_o tabOk Try.func14 rfl (Nat.le_of_ble_eq_true rfl) rfl ?_
  rintro E ⟨(l_1 : List Int), (i_2 : Int), (way_3 : Int), (far_4 : Int), ⟨⟩⟩ y hP H hw
  obtain ⟨z, H1, rfl⟩ := map_out H
  replace H : ring_probe l_1 i_2 way_3 far_4 = some z := H1
  clear hw H1
  unfold ring_probe at H
  refine tr_keep [0, 1, 2, 3] (σ' := mkSl 45 0 [(0, .val (.list (.int .i64)) .n l_1), (1, .val (.int .i64) .n i_2), (2, .val (.int .i64) .n way_3), (3, .val (.int .i64) .n far_4)]) rfl ?_
  refine tr_seq ?_
  refine tr_rg hP tabOk hsp fun A hA M hM => ?_
  cbv
  refine hM _ ?_
  refine tr_seq ?_
  refine tr_keep [0, 1, 2, 3] (σ' := mkSl 45 0 [(0, .val (.list (.int .i64)) .n l_1), (1, .val (.int .i64) .n i_2), (2, .val (.int .i64) .n way_3), (3, .val (.int .i64) .n far_4)]) (by subst hA; rfl) ?_
  clear hM hA M A
  refine tr_rg hP tabOk hsp fun A hA M hM => ?_
  cbv
  refine hM _ ?_
  refine tr_seq ?_
  refine tr_seq ?_
  refine tr_keepL [0, 1, 2, 3, 10] (fun n_5 : Int => mkSl 45 0 [(0, .val (.list (.int .i64)) .n l_1), (1, .val (.int .i64) .n i_2), (2, .val (.int .i64) .n way_3), (3, .val (.int .i64) .n far_4), (10, .val (.int .i64) .n n_5)]) H (by subst hA; rfl) (fun n_5 H => ?_)
  clear hM hA M A
  refine tr_rg hP tabOk hsp fun A hA M hM => ?_
  cbv
  refine hM _ ?_
  refine tr_block ?_
  refine tr_keep [0, 1, 2, 3, 10, 11] (σ' := mkSl 45 0 [(0, .val (.list (.int .i64)) .n l_1), (1, .val (.int .i64) .n i_2), (2, .val (.int .i64) .n way_3), (3, .val (.int .i64) .n far_4), (10, .val (.int .i64) .n n_5), (11, .val (.int .i64) .n (1 : Int))]) (by subst hA; rfl) ?_
  clear hM hA M A
  obtain ⟨q, hq, Hl, Hr⟩ := bindE_out H
  refine tr_loopE 0 (fun x : Int => ring_probe_L1 l_1 i_2 way_3 far_4 n_5 x) (fun x : Int => mkSl 45 0 [(0, .val (.list (.int .i64)) .n l_1), (1, .val (.int .i64) .n i_2), (2, .val (.int .i64) .n way_3), (3, .val (.int .i64) .n far_4), (10, .val (.int .i64) .n n_5), (11, .val (.int .i64) .n x)]) [0, 1, 2, 3, 10, 11] (fun q_7 : Unit => mkSl 45 0 [(3, .val (.int .i64) .n far_4)]) [3] hq rfl Hr (fun q_7 hl σ' h => ?_) (fun x r1 H => ?_)
  · replace H := Hl q_7 hl
    refine tr_keep [3] h ?_
    refine tr_seq ?_
    refine tr_rg hP tabOk hsp fun A hA M hM => ?_
    cbv
    refine hM _ ?_
    refine tr_ret ?_
    have hr := Option.some.inj H
    subst hr
    subst hA
    exact rfl
  · obtain ⟨k_6, rfl⟩ : ∃ v, v = x := ⟨x, rfl⟩
    replace H : ring_probe_L1 l_1 i_2 way_3 far_4 n_5 k_6 = some r1 := H
    unfold ring_probe_L1 at H
    refine tr_seq ?_
    refine tr_seq ?_
    refine tr_rg hP tabOk hsp fun A hA M hM => ?_
    cbv
    refine hM _ ?_
    refine tr_keep [0, 1, 2, 3, 10, 11, 17] (σ' := mkSl 45 0 [(0, .val (.list (.int .i64)) .n l_1), (1, .val (.int .i64) .n i_2), (2, .val (.int .i64) .n way_3), (3, .val (.int .i64) .n far_4), (10, .val (.int .i64) .n n_5), (11, .val (.int .i64) .n k_6), (17, .val (.bool) .n (decide (k_6 ≤ far_4)))]) (by subst hA; rfl) ?_
    clear hM hA M A
    refine tr_cond rfl (fun hc => ?_) (fun hc => ?_)
    · replace H := if_t H hc
      refine tr_keep [0, 1, 2, 3, 10, 11] (σ' := mkSl 45 0 [(0, .val (.list (.int .i64)) .n l_1), (1, .val (.int .i64) .n i_2), (2, .val (.int .i64) .n way_3), (3, .val (.int .i64) .n far_4), (10, .val (.int .i64) .n n_5), (11, .val (.int .i64) .n k_6)]) rfl ?_
      refine tr_skip ?_
      refine tr_seq ?_
      refine tr_block ?_
      refine tr_seq ?_
      refine tr_rg hP tabOk hsp fun A hA M hM => ?_
      cbv
      obtain ⟨ob1, H⟩ := ck_out H
      refine ⟨by subst hA; exact ob1, hM _ ?_⟩
      refine tr_block ?_
      refine tr_seq ?_
      refine tr_keepL [0, 1, 2, 3, 10, 11, 12] (fun at_8 : Int => mkSl 45 0 [(0, .val (.list (.int .i64)) .n l_1), (1, .val (.int .i64) .n i_2), (2, .val (.int .i64) .n way_3), (3, .val (.int .i64) .n far_4), (10, .val (.int .i64) .n n_5), (11, .val (.int .i64) .n k_6), (12, .val (.int .i64) .n at_8)]) H (by subst hA; rfl) (fun at_8 H => ?_)
      clear ob1 hM hA M A
      refine tr_rg hP tabOk hsp fun A hA M hM => ?_
      cbv
      refine hM _ ?_
      refine tr_keep [0, 1, 2, 3, 10, 11, 12, 27] (σ' := mkSl 45 0 [(0, .val (.list (.int .i64)) .n l_1), (1, .val (.int .i64) .n i_2), (2, .val (.int .i64) .n way_3), (3, .val (.int .i64) .n far_4), (10, .val (.int .i64) .n n_5), (11, .val (.int .i64) .n k_6), (12, .val (.int .i64) .n at_8), (27, .val (.bool) .n (at_8 == i_2))]) (by subst hA; rfl) ?_
      clear hM hA M A
      refine tr_cond rfl (fun hc => ?_) (fun hc => ?_)
      · replace H := if_t H hc
        refine tr_keep [0, 1, 2, 3, 10, 11, 12] (σ' := mkSl 45 0 [(0, .val (.list (.int .i64)) .n l_1), (1, .val (.int .i64) .n i_2), (2, .val (.int .i64) .n way_3), (3, .val (.int .i64) .n far_4), (10, .val (.int .i64) .n n_5), (11, .val (.int .i64) .n k_6), (12, .val (.int .i64) .n at_8)]) rfl ?_
        refine tr_seq ?_
        refine tr_rg hP tabOk hsp fun A hA M hM => ?_
        cbv
        refine hM _ ?_
        refine tr_ret ?_
        have hr := Option.some.inj H
        refine Exists.intro _ (And.intro hr.symm (fun hr => ?_))
        subst hr
        subst hA
        exact rfl
      · replace H := if_f H hc
        refine tr_keep [0, 1, 2, 3, 10, 11, 12] (σ' := mkSl 45 0 [(0, .val (.list (.int .i64)) .n l_1), (1, .val (.int .i64) .n i_2), (2, .val (.int .i64) .n way_3), (3, .val (.int .i64) .n far_4), (10, .val (.int .i64) .n n_5), (11, .val (.int .i64) .n k_6), (12, .val (.int .i64) .n at_8)]) rfl ?_
        refine tr_seq ?_
        refine tr_rg hP tabOk hsp fun A hA M hM => ?_
        cbv
        obtain ⟨ob1, H⟩ := ck_out H
        obtain ⟨ob2, H⟩ := ck_out H
        refine ⟨by subst hA; exact ob1, by subst hA; exact ob2, hM _ ?_⟩
        refine tr_keep [0, 1, 2, 3, 10, 11, 32] (σ' := mkSl 45 0 [(0, .val (.list (.int .i64)) .n l_1), (1, .val (.int .i64) .n i_2), (2, .val (.int .i64) .n way_3), (3, .val (.int .i64) .n far_4), (10, .val (.int .i64) .n n_5), (11, .val (.int .i64) .n k_6), (32, .val (.bool) .n (decide ((l_1.getD at_8.toNat (0 : Int)) > (l_1.getD i_2.toNat (0 : Int)))))]) (by subst hA; rfl) ?_
        clear ob2 ob1 hM hA M A
        refine tr_cond rfl (fun hc => ?_) (fun hc => ?_)
        · replace H := if_t H hc
          refine tr_keep [0, 1, 2, 3, 10, 11] (σ' := mkSl 45 0 [(0, .val (.list (.int .i64)) .n l_1), (1, .val (.int .i64) .n i_2), (2, .val (.int .i64) .n way_3), (3, .val (.int .i64) .n far_4), (10, .val (.int .i64) .n n_5), (11, .val (.int .i64) .n k_6)]) rfl ?_
          refine tr_seq ?_
          refine tr_rg hP tabOk hsp fun A hA M hM => ?_
          cbv
          refine hM _ ?_
          refine tr_ret ?_
          have hr := Option.some.inj H
          refine Exists.intro _ (And.intro hr.symm (fun hr => ?_))
          subst hr
          subst hA
          exact rfl
        · replace H := if_f H hc
          refine tr_keep [0, 1, 2, 3, 10, 11] (σ' := mkSl 45 0 [(0, .val (.list (.int .i64)) .n l_1), (1, .val (.int .i64) .n i_2), (2, .val (.int .i64) .n way_3), (3, .val (.int .i64) .n far_4), (10, .val (.int .i64) .n n_5), (11, .val (.int .i64) .n k_6)]) rfl ?_
          refine tr_skip ?_
          refine tr_rg hP tabOk hsp fun A hA M hM => ?_
          cbv
          refine hM _ ?_
          exact Exists.intro _ (And.intro (Option.some.inj H).symm (by subst hA; rfl))
    · replace H := if_f H hc
      refine tr_keep [0, 1, 2, 3, 10, 11] (σ' := mkSl 45 0 [(0, .val (.list (.int .i64)) .n l_1), (1, .val (.int .i64) .n i_2), (2, .val (.int .i64) .n way_3), (3, .val (.int .i64) .n far_4), (10, .val (.int .i64) .n n_5), (11, .val (.int .i64) .n k_6)]) rfl ?_
      refine tr_exit ?_
      exact And.intro rfl (Exists.intro _ (And.intro (Option.some.inj H).symm (by rfl)))
theorem ring_probe_sp : ∃ (pg : PT.denL [.list (.int .i64), .int .i64, .int .i64, .int .i64] → Prop) (fg : PT.denL [.list (.int .i64), .int .i64, .int .i64, .int .i64] → PT.denL [.int .i64, .bool]), SpecRuns Try.prog 14 ⟨[.list (.int .i64), .int .i64, .int .i64, .int .i64], [.v, .v, .v, .v], [.int .i64, .bool], [.n, .n], pg, fg⟩ ∧ (∀ {a1 : List Int} {a2 : Int} {a3 : Int} {a4 : Int} {y : Int × Bool}, ring_probe a1 a2 a3 a4 = some y → pg (a1, a2, a3, a4, ()) ∧ y = ((fg (a1, a2, a3, a4, ())).1, (fg (a1, a2, a3, a4, ())).2.1)) ∧ (∀ {a1 : List Int} {a2 : Int} {a3 : Int} {a4 : Int}, (ring_probe a1 a2 a3 a4).isSome = true → pg (a1, a2, a3, a4, ())) ∧ ∀ {a1 : List Int} {a2 : Int} {a3 : Int} {a4 : Int}, (ring_probe a1 a2 a3 a4).getD ((0 : Int), false) = ((fg (a1, a2, a3, a4, ())).1, (fg (a1, a2, a3, a4, ())).2.1) := by
  obtain ⟨pg, fg, h, hc, hi, hd⟩ := spec_hide ring_probe_runs
  refine ⟨pg, fg, h, ?_, ?_, ?_⟩
  · intro a1 a2 a3 a4 y e
    obtain ⟨h1, h2⟩ := hc (a1, a2, a3, a4, ()) (y.1, y.2, ()) (congrArg (Option.map fun r => (r.1, r.2, ())) e)
    exact ⟨h1, by first | (rw [h2]; done) | (rw [h2]; rfl)⟩
  · intro a1 a2 a3 a4
    intro e
    exact hi (a1, a2, a3, a4, ()) (map_isSome e)
  · intro a1 a2 a3 a4
    rw [hd (a1, a2, a3, a4, ())]
    cases ring_probe a1 a2 a3 a4 <;> rfl
end Go.Proofs.Ytiddimfepemohaa.Rg
