/- Functions of the program as functions that may fail, and that the code computes them (printed). Each theorem bears its conditions itself. -/
import Derived.Test.YtdahfpfkjljojaaCtDefs
import Derived.Test.YtdahfpfkjljojaaCtTab
open Go Go.Proofs.Ytdahfpfkjljojaa.Sy Go.Proofs
set_option maxHeartbeats 4000000
set_option maxRecDepth 100000
set_option cbv.maxSteps 10000000
set_option linter.unusedVariables false
set_option linter.unusedSimpArgs false
namespace Go.Proofs.Ytdahfpfkjljojaa.Ct
theorem R_Rest_runs : SpecRuns Try.prog 33 (oSpec [.int .i64, .int .i64] [.v, .v] [.int .i64] [.n] fun x => (R_Rest x.1 x.2.1).map fun r => (r, ())) := by
  have hsp : SpecsOk Try.prog [] := specsOk_nil
  refine runs_of_o tabOk Try.func33 rfl (Nat.le_of_ble_eq_true rfl) rfl ?_
  rintro E ⟨(a_1 : Int), (n_2 : Int), ⟨⟩⟩ y hP H hw
  obtain ⟨z, H1, rfl⟩ := map_out H
  replace H : R_Rest a_1 n_2 = some z := H1
  clear hw H1
  unfold R_Rest at H
  refine tr_keep [0, 1] (σ' := mkSl 14 0 [(0, .val (.int .i64) .n a_1), (1, .val (.int .i64) .n n_2)]) rfl ?_
  refine tr_seq ?_
  refine tr_rg hP tabOk hsp fun A hA M hM => ?_
  cbv
  refine hM _ ?_
  refine tr_seq ?_
  refine tr_seq ?_
  refine tr_keep [0, 1] (σ' := mkSl 14 0 [(0, .val (.int .i64) .n a_1), (1, .val (.int .i64) .n n_2)]) (by subst hA; rfl) ?_
  clear hM hA M A
  refine tr_rg hP tabOk hsp fun A hA M hM => ?_
  cbv
  refine hM _ ?_
  refine tr_keep [0, 1, 6] (σ' := mkSl 14 0 [(0, .val (.int .i64) .n a_1), (1, .val (.int .i64) .n n_2), (6, .val (.bool) .n (decide (n_2 ≤ (0 : Int))))]) (by subst hA; rfl) ?_
  clear hM hA M A
  refine tr_cond rfl (fun hc => ?_) (fun hc => ?_)
  · replace H := if_t H hc
    refine tr_keep [0, 1] (σ' := mkSl 14 0 [(0, .val (.int .i64) .n a_1), (1, .val (.int .i64) .n n_2)]) rfl ?_
    refine tr_seq ?_
    refine tr_rg hP tabOk hsp fun A hA M hM => ?_
    cbv
    refine hM _ ?_
    refine tr_ret ?_
    have hr := Option.some.inj H
    subst hr
    subst hA
    exact rfl
  · replace H := if_f H hc
    refine tr_keep [0, 1] (σ' := mkSl 14 0 [(0, .val (.int .i64) .n a_1), (1, .val (.int .i64) .n n_2)]) rfl ?_
    refine tr_skip ?_
    refine tr_seq ?_
    refine tr_rg hP tabOk hsp fun A hA M hM => ?_
    cbv
    obtain ⟨ob1, H⟩ := ck_out H
    obtain ⟨ob2, H⟩ := ck_out H
    refine ⟨by subst hA; exact ob1, by subst hA; exact ob2, hM _ ?_⟩
    refine tr_ret ?_
    have hr := Option.some.inj H
    subst hr
    subst hA
    exact rfl
theorem R_Rest_sp : ∃ (pg : PT.denL [.int .i64, .int .i64] → Prop) (fg : PT.denL [.int .i64, .int .i64] → PT.denL [.int .i64]), SpecRuns Try.prog 33 ⟨[.int .i64, .int .i64], [.v, .v], [.int .i64], [.n], pg, fg⟩ ∧ (∀ {a1 : Int} {a2 : Int} {y : Int}, R_Rest a1 a2 = some y → pg (a1, a2, ()) ∧ y = (fg (a1, a2, ())).1) ∧ (∀ {a1 : Int} {a2 : Int}, (R_Rest a1 a2).isSome = true → pg (a1, a2, ())) ∧ ∀ {a1 : Int} {a2 : Int}, (R_Rest a1 a2).getD (0 : Int) = (fg (a1, a2, ())).1 := by
  obtain ⟨pg, fg, h, hc, hi, hd⟩ := spec_hide R_Rest_runs
  refine ⟨pg, fg, h, ?_, ?_, ?_⟩
  · intro a1 a2 y e
    obtain ⟨h1, h2⟩ := hc (a1, a2, ()) (y, ()) (congrArg (Option.map fun r => (r, ())) e)
    exact ⟨h1, by first | (rw [h2]; done) | (rw [h2]; rfl)⟩
  · intro a1 a2
    intro e
    exact hi (a1, a2, ()) (map_isSome e)
  · intro a1 a2
    rw [hd (a1, a2, ())]
    cases R_Rest a1 a2 <;> rfl
end Go.Proofs.Ytdahfpfkjljojaa.Ct
