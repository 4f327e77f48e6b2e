/- Functions of the program as functions that may fail, and that the code computes them (printed). Each theorem bears its conditions itself. -/
import Derived.Test.YthjbflbcdohooaaFlDefs
import Derived.Test.YthjbflbcdohooaaFlTab
import Derived.Test.YthjbflbcdohooaaFlQviewQCheck
open Go Go.Proofs.Ythjbflbcdohooaa.Sy Go.Proofs
set_option maxHeartbeats 4000000
set_option maxRecDepth 100000
set_option cbv.maxSteps 10000000
set_option linter.unusedVariables false
set_option linter.unusedSimpArgs false
namespace Go.Proofs.Ythjbflbcdohooaa.Fl
theorem flush_New_runs : SpecRuns Try.prog 7 (oSpec [.int .u8] [.v] [.st [.st [.int .i64, .int .u8], .int .u8, .arr 6 (.list (.int .i64))], .int .i64] [.s [.n, .n, (.a (.l .n))], .n] fun x => (flush_New x.1).map fun r => (r.1, r.2, ())) := by
  obtain ⟨pg22, fg22, hs22, hc22, hi22, hd22⟩ := view_Check_sp
  have hsp : SpecsOk Try.prog [(22, ⟨[.st [.int .i64, .int .u8]], [.v], [.int .i64], [.n], pg22, fg22⟩)] := (specsOk_cons Try.func22 (by kernel_rfl) (by kernel_rfl) hs22 specsOk_nil)
  refine runs_of_o tabOk Try.func7 rfl (Nat.le_of_ble_eq_true rfl) rfl ?_
  rintro E ⟨(members_1 : Int), ⟨⟩⟩ y hP H hw
  obtain ⟨z, H1, rfl⟩ := map_out H
  replace H : flush_New members_1 = some z := H1
  clear hw H1
  unfold flush_New at H
  refine tr_keep [0] (σ' := mkSl 17 0 [(0, .val (.int .u8) .n members_1)]) rfl ?_
  refine tr_seq ?_
  refine tr_rg hP tabOk hsp fun A hA M hM => ?_
  cbv
  refine hM _ ?_
  refine tr_seq ?_
  refine tr_keepL [0, 2] (fun t2_2 : List (List Int) => mkSl 17 0 [(0, .val (.int .u8) .n members_1), (2, .val (.box (.st [.st [.int .i64, .int .u8], .int .u8, .arr 6 (.list (.int .i64))])) (.b (.s [.n, .n, (.a (.l .n))])) (((0 : Int), (0 : Int), ()), (0 : Int), t2_2, ()))]) H (by subst hA; rfl) (fun t2_2 H => ?_)
  clear hM hA M A
  refine tr_rg hP tabOk hsp fun A hA M hM => ?_
  cbv
  refine hM _ ?_
  refine tr_seq ?_
  refine tr_seq ?_
  refine tr_keepL [2, 4] (fun f_3 : List (List Int) => mkSl 17 0 [(2, .val (.box (.st [.st [.int .i64, .int .u8], .int .u8, .arr 6 (.list (.int .i64))])) (.b (.s [.n, .n, (.a (.l .n))])) (((0 : Int), (0 : Int), ()), (0 : Int), t2_2, ())), (4, .val (.box (.st [.st [.int .i64, .int .u8], .int .u8, .arr 6 (.list (.int .i64))])) (.b (.s [.n, .n, (.a (.l .n))])) (((0 : Int), members_1, ()), (0 : Int), f_3, ()))]) H (by subst hA; rfl) (fun f_3 H => ?_)
  clear hM hA M A
  refine tr_rg hP tabOk hsp fun A hA M hM => ?_
  cbv
  obtain ⟨r_4, hr1, H⟩ := bind_out H
  obtain ⟨pq1, eq1⟩ := hc22 hr1
  refine ⟨by subst hA; subst eq1; exact pq1, hM _ ?_⟩
  refine tr_seq ?_
  refine tr_keep [2, 4, 5] (σ' := mkSl 17 0 [(2, .val (.box (.st [.st [.int .i64, .int .u8], .int .u8, .arr 6 (.list (.int .i64))])) (.b (.s [.n, .n, (.a (.l .n))])) (((0 : Int), (0 : Int), ()), (0 : Int), t2_2, ())), (4, .val (.box (.st [.st [.int .i64, .int .u8], .int .u8, .arr 6 (.list (.int .i64))])) (.b (.s [.n, .n, (.a (.l .n))])) (((0 : Int), members_1, ()), (0 : Int), f_3, ())), (5, .val (.int .i64) .n r_4)]) (by subst hA; subst eq1; rfl) ?_
  clear pq1 eq1 hr1 hM hA M A
  refine tr_rg hP tabOk hsp fun A hA M hM => ?_
  cbv
  refine hM _ ?_
  refine tr_keep [2, 4, 5, 13] (σ' := mkSl 17 0 [(2, .val (.box (.st [.st [.int .i64, .int .u8], .int .u8, .arr 6 (.list (.int .i64))])) (.b (.s [.n, .n, (.a (.l .n))])) (((0 : Int), (0 : Int), ()), (0 : Int), t2_2, ())), (4, .val (.box (.st [.st [.int .i64, .int .u8], .int .u8, .arr 6 (.list (.int .i64))])) (.b (.s [.n, .n, (.a (.l .n))])) (((0 : Int), members_1, ()), (0 : Int), f_3, ())), (5, .val (.int .i64) .n r_4), (13, .val (.bool) .n (r_4 != (0 : Int)))]) (by subst hA; rfl) ?_
  clear hM hA M A
  refine tr_cond rfl (fun hc => ?_) (fun hc => ?_)
  · replace H := if_t H hc
    refine tr_keep [2, 4, 5] (σ' := mkSl 17 0 [(2, .val (.box (.st [.st [.int .i64, .int .u8], .int .u8, .arr 6 (.list (.int .i64))])) (.b (.s [.n, .n, (.a (.l .n))])) (((0 : Int), (0 : Int), ()), (0 : Int), t2_2, ())), (4, .val (.box (.st [.st [.int .i64, .int .u8], .int .u8, .arr 6 (.list (.int .i64))])) (.b (.s [.n, .n, (.a (.l .n))])) (((0 : Int), members_1, ()), (0 : Int), f_3, ())), (5, .val (.int .i64) .n r_4)]) rfl ?_
    refine tr_seq ?_
    refine tr_rg hP tabOk hsp fun A hA M hM => ?_
    cbv
    refine hM _ ?_
    refine tr_ret ?_
    have hr := Option.some.inj H
    subst hr
    subst hA
    exact rfl
  · replace H := if_f H hc
    refine tr_keep [2, 4, 5] (σ' := mkSl 17 0 [(2, .val (.box (.st [.st [.int .i64, .int .u8], .int .u8, .arr 6 (.list (.int .i64))])) (.b (.s [.n, .n, (.a (.l .n))])) (((0 : Int), (0 : Int), ()), (0 : Int), t2_2, ())), (4, .val (.box (.st [.st [.int .i64, .int .u8], .int .u8, .arr 6 (.list (.int .i64))])) (.b (.s [.n, .n, (.a (.l .n))])) (((0 : Int), members_1, ()), (0 : Int), f_3, ())), (5, .val (.int .i64) .n r_4)]) rfl ?_
    refine tr_skip ?_
    refine tr_seq ?_
    refine tr_rg hP tabOk hsp fun A hA M hM => ?_
    cbv
    refine hM _ ?_
    refine tr_ret ?_
    have hr := Option.some.inj H
    subst hr
    subst hA
    exact rfl
theorem flush_New_sp : ∃ (pg : PT.denL [.int .u8] → Prop) (fg : PT.denL [.int .u8] → PT.denL [.st [.st [.int .i64, .int .u8], .int .u8, .arr 6 (.list (.int .i64))], .int .i64]), SpecRuns Try.prog 7 ⟨[.int .u8], [.v], [.st [.st [.int .i64, .int .u8], .int .u8, .arr 6 (.list (.int .i64))], .int .i64], [.s [.n, .n, (.a (.l .n))], .n], pg, fg⟩ ∧ (∀ {a1 : Int} {y : ((Int × Int × Unit) × Int × List (List Int) × Unit) × Int}, flush_New a1 = some y → pg (a1, ()) ∧ y = ((fg (a1, ())).1, (fg (a1, ())).2.1)) ∧ (∀ {a1 : Int}, (flush_New a1).isSome = true → pg (a1, ())) ∧ ∀ {a1 : Int}, (flush_New a1).getD ((((0 : Int), (0 : Int), ()), (0 : Int), List.replicate 6 ([] : List Int), ()), (0 : Int)) = ((fg (a1, ())).1, (fg (a1, ())).2.1) := by
  obtain ⟨pg, fg, h, hc, hi, hd⟩ := spec_hide flush_New_runs
  refine ⟨pg, fg, h, ?_, ?_, ?_⟩
  · intro a1 y e
    obtain ⟨h1, h2⟩ := hc (a1, ()) (y.1, y.2, ()) (congrArg (Option.map fun r => (r.1, r.2, ())) e)
    exact ⟨h1, by first | (rw [h2]; done) | (rw [h2]; rfl)⟩
  · intro a1
    intro e
    exact hi (a1, ()) (map_isSome e)
  · intro a1
    rw [hd (a1, ())]
    cases flush_New a1 <;> rfl
end Go.Proofs.Ythjbflbcdohooaa.Fl
