/- Functions of the program as functions that may fail, and that the code computes them (printed). Each theorem bears its conditions itself. -/
import Derived.Test.YthjbflbcdohooaaFlDefs
import Derived.Test.YthjbflbcdohooaaFlTab
open Go Go.Proofs.Ythjbflbcdohooaa.Sy Go.Proofs
set_option maxHeartbeats 4000000
set_option maxRecDepth 100000
set_option cbv.maxSteps 10000000
set_option linter.unusedVariables false
set_option linter.unusedSimpArgs false
namespace Go.Proofs.Ythjbflbcdohooaa.Fl
theorem view_Check_runs : SpecRuns Try.prog 22 (oSpec [.st [.int .i64, .int .u8]] [.v] [.int .i64] [.n] fun x => (view_Check x.1).map fun r => (r, ())) := by
  have hsp : SpecsOk Try.prog [] := specsOk_nil
  refine runs_of_o tabOk Try.func22 rfl (Nat.le_of_ble_eq_true rfl) rfl ?_
  rintro E ⟨(v_1 : (Int × Int × Unit)), ⟨⟩⟩ y hP H hw
  obtain ⟨z, H1, rfl⟩ := map_out H
  replace H : view_Check v_1 = some z := H1
  clear hw H1
  unfold view_Check at H
  refine tr_keep [0] (σ' := mkSl 22 0 [(0, .val (.st [.int .i64, .int .u8]) .n v_1)]) rfl ?_
  refine tr_seq ?_
  refine tr_rg hP tabOk hsp fun A hA M hM => ?_
  cbv
  refine hM _ ?_
  refine tr_seq ?_
  refine tr_seq ?_
  refine tr_keep [1] (σ' := mkSl 22 0 [(1, .val (.box (.st [.int .i64, .int .u8])) (.b .n) v_1)]) (by subst hA; rfl) ?_
  clear hM hA M A
  refine tr_rg hP tabOk hsp fun A hA M hM => ?_
  cbv
  obtain ⟨ob1, H⟩ := ck_out H
  refine ⟨by subst hA; exact ob1, hM _ ?_⟩
  refine tr_keep [21] (σ' := mkSl 22 0 [(21, .val (.bool) .n ((((decide (v_1.1 < (0 : Int))) || (decide (v_1.1 > (16777215 : Int)))) || (v_1.2.1 == (0 : Int))) || ((arR .shr .u8 v_1.2.1 (6 : Int)) != (0 : Int))))]) (by subst hA; rfl) ?_
  clear ob1 hM hA M A
  refine tr_cond rfl (fun hc => ?_) (fun hc => ?_)
  · replace H := if_t H hc
    refine tr_keep [] (σ' := mkSl 22 0 []) rfl ?_
    refine tr_seq ?_
    refine tr_rg hP tabOk hsp fun A hA M hM => ?_
    cbv
    refine hM _ ?_
    refine tr_ret ?_
    have hr := Option.some.inj H
    subst hr
    subst hA
    exact rfl
  · replace H := if_f H hc
    refine tr_keep [] (σ' := mkSl 22 0 []) rfl ?_
    refine tr_skip ?_
    refine tr_seq ?_
    refine tr_rg hP tabOk hsp fun A hA M hM => ?_
    cbv
    refine hM _ ?_
    refine tr_ret ?_
    have hr := Option.some.inj H
    subst hr
    subst hA
    exact rfl
theorem view_Check_sp : ∃ (pg : PT.denL [.st [.int .i64, .int .u8]] → Prop) (fg : PT.denL [.st [.int .i64, .int .u8]] → PT.denL [.int .i64]), SpecRuns Try.prog 22 ⟨[.st [.int .i64, .int .u8]], [.v], [.int .i64], [.n], pg, fg⟩ ∧ (∀ {a1 : (Int × Int × Unit)} {y : Int}, view_Check a1 = some y → pg (a1, ()) ∧ y = (fg (a1, ())).1) ∧ (∀ {a1 : (Int × Int × Unit)}, (view_Check a1).isSome = true → pg (a1, ())) ∧ ∀ {a1 : (Int × Int × Unit)}, (view_Check a1).getD (0 : Int) = (fg (a1, ())).1 := by
  obtain ⟨pg, fg, h, hc, hi, hd⟩ := spec_hide view_Check_runs
  refine ⟨pg, fg, h, ?_, ?_, ?_⟩
  · intro a1 y e
    obtain ⟨h1, h2⟩ := hc (a1, ()) (y, ()) (congrArg (Option.map fun r => (r, ())) e)
    exact ⟨h1, by first | (rw [h2]; done) | (rw [h2]; rfl)⟩
  · intro a1
    intro e
    exact hi (a1, ()) (map_isSome e)
  · intro a1
    rw [hd (a1, ())]
    cases view_Check a1 <;> rfl
end Go.Proofs.Ythjbflbcdohooaa.Fl
