/- Functions of the program as functions that may fail, and that the code computes them (printed). Each theorem bears its conditions itself. -/
import Derived.Test.YtcghecmefpldmaaVcDefs
import Derived.Test.YtcghecmefpldmaaVcTab
open Go Go.Proofs.Ytcghecmefpldmaa.Sy Go.Proofs
set_option maxHeartbeats 4000000
set_option maxRecDepth 100000
set_option cbv.maxSteps 10000000
set_option linter.unusedVariables false
set_option linter.unusedSimpArgs false
namespace Go.Proofs.Ytcghecmefpldmaa.Vc
theorem StampLong_1_runs : SpecRuns Try.prog 25 (oSpec [.st [.int .i64, .int .i64], .int .i64, .list (.int .i64), .int .i64] [.v, .p, .p, .p] [.bool] [.n] fun x => (StampLong_1 x.1 x.2.1 x.2.2.1 x.2.2.2.1).map fun r => (r, ())) := by
  have hsp : SpecsOk Try.prog [] := specsOk_nil
  refine runs_of_o tabOk Try.func25 rfl (Nat.le_of_ble_eq_true rfl) rfl ?_
  rintro E ⟨(x_1 : (Int × Int × Unit)), (t1_2 : Int), (t2_3 : List Int), (t3_4 : Int), ⟨⟩⟩ y hP H hw
  obtain ⟨z, H1, rfl⟩ := map_out H
  replace H : StampLong_1 x_1 t1_2 t2_3 t3_4 = some z := H1
  clear hw H1
  unfold StampLong_1 at H
  refine tr_keep [0, 1, 2, 3] (σ' := mkSl 20 0 [(0, .val (.st [.int .i64, .int .i64]) .n x_1), (1, .pv (.int .i64) t1_2), (2, .pv (.list (.int .i64)) t2_3), (3, .pv (.int .i64) t3_4)]) rfl ?_
  refine tr_seq ?_
  refine tr_rg hP tabOk hsp fun A hA M hM => ?_
  cbv
  refine hM _ ?_
  refine tr_seq ?_
  refine tr_keep [1, 2, 3, 4] (σ' := mkSl 20 0 [(1, .pv (.int .i64) t1_2), (2, .pv (.list (.int .i64)) t2_3), (3, .pv (.int .i64) t3_4), (4, .val (.box (.st [.int .i64, .int .i64])) (.b .n) x_1)]) (by subst hA; rfl) ?_
  clear hM hA M A
  refine tr_rg hP tabOk hsp fun A hA M hM => ?_
  cbv
  obtain ⟨ob1, H⟩ := ck_out H
  refine ⟨by subst hA; exact ob1, hM _ ?_⟩
  refine tr_ret ?_
  have hr := Option.some.inj H
  subst hr
  subst hA
  exact rfl
theorem StampLong_1_sp : ∃ (pg : PT.denL [.st [.int .i64, .int .i64], .int .i64, .list (.int .i64), .int .i64] → Prop) (fg : PT.denL [.st [.int .i64, .int .i64], .int .i64, .list (.int .i64), .int .i64] → PT.denL [.bool]), SpecRuns Try.prog 25 ⟨[.st [.int .i64, .int .i64], .int .i64, .list (.int .i64), .int .i64], [.v, .p, .p, .p], [.bool], [.n], pg, fg⟩ ∧ (∀ {a1 : (Int × Int × Unit)} {a2 : Int} {a3 : List Int} {a4 : Int} {y : Bool}, StampLong_1 a1 a2 a3 a4 = some y → pg (a1, a2, a3, a4, ()) ∧ y = (fg (a1, a2, a3, a4, ())).1) ∧ (∀ {a1 : (Int × Int × Unit)} {a2 : Int} {a3 : List Int} {a4 : Int}, (StampLong_1 a1 a2 a3 a4).isSome = true → pg (a1, a2, a3, a4, ())) ∧ ∀ {a1 : (Int × Int × Unit)} {a2 : Int} {a3 : List Int} {a4 : Int}, (StampLong_1 a1 a2 a3 a4).getD false = (fg (a1, a2, a3, a4, ())).1 := by
  obtain ⟨pg, fg, h, hc, hi, hd⟩ := spec_hide StampLong_1_runs
  refine ⟨pg, fg, h, ?_, ?_, ?_⟩
  · intro a1 a2 a3 a4 y e
    obtain ⟨h1, h2⟩ := hc (a1, a2, a3, a4, ()) (y, ()) (congrArg (Option.map fun r => (r, ())) e)
    exact ⟨h1, by first | (rw [h2]; done) | (rw [h2]; rfl)⟩
  · intro a1 a2 a3 a4
    intro e
    exact hi (a1, a2, a3, a4, ()) (map_isSome e)
  · intro a1 a2 a3 a4
    rw [hd (a1, a2, a3, a4, ())]
    cases StampLong_1 a1 a2 a3 a4 <;> rfl
end Go.Proofs.Ytcghecmefpldmaa.Vc
