/- Functions of the program as functions that may fail, and that the code computes them (printed). Each theorem bears its conditions itself. -/
import Derived.Test.YtaachifkgcdeoaaLtDefs
import Derived.Test.YtaachifkgcdeoaaLtTab
import Derived.Test.YtaachifkgcdeoaaLtQlatQCheck
open Go Go.Proofs.Ytaachifkgcdeoaa.Sy Go.Proofs
set_option maxHeartbeats 4000000
set_option maxRecDepth 100000
set_option cbv.maxSteps 10000000
set_option linter.unusedVariables false
set_option linter.unusedSimpArgs false
namespace Go.Proofs.Ytaachifkgcdeoaa.Lt
theorem lat_Both_runs : SpecRuns Try.prog 8 (oSpec [.list (.int .u16), .int .i64, .int .i64] [.v, .v, .v] [.int .u16, .int .u16, .int .i64] [.n, .n, .n] fun x => (lat_Both x.1 x.2.1 x.2.2.1).map fun r => (r.1, r.2.1, r.2.2, ())) := by
  obtain ⟨pg9, fg9, hs9, hc9, hi9, hd9⟩ := lat_Check_sp
  have hsp : SpecsOk Try.prog [(9, ⟨[.list (.int .u16)], [.v], [.int .i64], [.n], pg9, fg9⟩)] := (specsOk_cons Try.func9 (by kernel_rfl) (by kernel_rfl) hs9 specsOk_nil)
  refine runs_of_o tabOk Try.func8 rfl (Nat.le_of_ble_eq_true rfl) rfl ?_
  rintro E ⟨(l_1 : List Int), (a_2 : Int), (b_3 : Int), ⟨⟩⟩ y hP H hw
  obtain ⟨z, H1, rfl⟩ := map_out H
  replace H : lat_Both l_1 a_2 b_3 = some z := H1
  clear hw H1
  unfold lat_Both at H
  refine tr_keep [0, 1, 2] (σ' := mkSl 51 0 [(0, .val (.list (.int .u16)) .n l_1), (1, .val (.int .i64) .n a_2), (2, .val (.int .i64) .n b_3)]) rfl ?_
  refine tr_seq ?_
  refine tr_rg hP tabOk hsp fun A hA M hM => ?_
  cbv
  refine hM _ ?_
  refine tr_seq ?_
  refine tr_seq ?_
  refine tr_keep [0, 1, 2] (σ' := mkSl 51 0 [(0, .val (.list (.int .u16)) .n l_1), (1, .val (.int .i64) .n a_2), (2, .val (.int .i64) .n b_3)]) (by subst hA; rfl) ?_
  clear hM hA M A
  refine tr_rg hP tabOk hsp fun A hA M hM => ?_
  cbv
  obtain ⟨r_4, hr1, H⟩ := bind_out H
  obtain ⟨pq1, eq1⟩ := hc9 hr1
  refine ⟨by subst hA; subst eq1; exact pq1, hM _ ?_⟩
  refine tr_seq ?_
  refine tr_keep [0, 1, 2, 9] (σ' := mkSl 51 0 [(0, .val (.list (.int .u16)) .n l_1), (1, .val (.int .i64) .n a_2), (2, .val (.int .i64) .n b_3), (9, .val (.int .i64) .n r_4)]) (by subst hA; subst eq1; rfl) ?_
  clear pq1 eq1 hr1 hM hA M A
  refine tr_rg hP tabOk hsp fun A hA M hM => ?_
  cbv
  refine hM _ ?_
  refine tr_keep [0, 1, 2, 9, 13] (σ' := mkSl 51 0 [(0, .val (.list (.int .u16)) .n l_1), (1, .val (.int .i64) .n a_2), (2, .val (.int .i64) .n b_3), (9, .val (.int .i64) .n r_4), (13, .val (.bool) .n (r_4 != (0 : Int)))]) (by subst hA; rfl) ?_
  clear hM hA M A
  refine tr_cond rfl (fun hc => ?_) (fun hc => ?_)
  · replace H := if_t H hc
    refine tr_keep [0, 1, 2, 9] (σ' := mkSl 51 0 [(0, .val (.list (.int .u16)) .n l_1), (1, .val (.int .i64) .n a_2), (2, .val (.int .i64) .n b_3), (9, .val (.int .i64) .n r_4)]) rfl ?_
    refine tr_seq ?_
    refine tr_rg hP tabOk hsp fun A hA M hM => ?_
    cbv
    refine hM _ ?_
    refine tr_ret ?_
    have hr := Option.some.inj H
    subst hr
    subst hA
    exact rfl
  · replace H := if_f H hc
    refine tr_keep [0, 1, 2, 9] (σ' := mkSl 51 0 [(0, .val (.list (.int .u16)) .n l_1), (1, .val (.int .i64) .n a_2), (2, .val (.int .i64) .n b_3), (9, .val (.int .i64) .n r_4)]) rfl ?_
    refine tr_skip ?_
    refine tr_seq ?_
    refine tr_seq ?_
    refine tr_rg hP tabOk hsp fun A hA M hM => ?_
    cbv
    refine hM _ ?_
    refine tr_keep [0, 1, 2, 32] (σ' := mkSl 51 0 [(0, .val (.list (.int .u16)) .n l_1), (1, .val (.int .i64) .n a_2), (2, .val (.int .i64) .n b_3), (32, .val (.bool) .n ((((decide (a_2 < (0 : Int))) || (decide (a_2 ≥ (l_1.length : Int)))) || (decide (b_3 < (0 : Int)))) || (decide (b_3 ≥ (l_1.length : Int)))))]) (by subst hA; rfl) ?_
    clear hM hA M A
    refine tr_cond rfl (fun hc => ?_) (fun hc => ?_)
    · replace H := if_t H hc
      refine tr_keep [0, 1, 2] (σ' := mkSl 51 0 [(0, .val (.list (.int .u16)) .n l_1), (1, .val (.int .i64) .n a_2), (2, .val (.int .i64) .n b_3)]) rfl ?_
      refine tr_seq ?_
      refine tr_rg hP tabOk hsp fun A hA M hM => ?_
      cbv
      refine hM _ ?_
      refine tr_ret ?_
      have hr := Option.some.inj H
      subst hr
      subst hA
      exact rfl
    · replace H := if_f H hc
      refine tr_keep [0, 1, 2] (σ' := mkSl 51 0 [(0, .val (.list (.int .u16)) .n l_1), (1, .val (.int .i64) .n a_2), (2, .val (.int .i64) .n b_3)]) rfl ?_
      refine tr_skip ?_
      refine tr_seq ?_
      refine tr_rg hP tabOk hsp fun A hA M hM => ?_
      cbv
      obtain ⟨ob1, H⟩ := ck_out H
      obtain ⟨ob2, H⟩ := ck_out H
      obtain ⟨ob3, H⟩ := ck_out H
      obtain ⟨ob4, H⟩ := ck_out H
      refine ⟨by subst hA; exact ob1, by subst hA; exact ob2, by subst hA; exact ob3, by subst hA; exact ob4, hM _ ?_⟩
      refine tr_ret ?_
      have hr := Option.some.inj H
      subst hr
      subst hA
      exact rfl
theorem lat_Both_sp : ∃ (pg : PT.denL [.list (.int .u16), .int .i64, .int .i64] → Prop) (fg : PT.denL [.list (.int .u16), .int .i64, .int .i64] → PT.denL [.int .u16, .int .u16, .int .i64]), SpecRuns Try.prog 8 ⟨[.list (.int .u16), .int .i64, .int .i64], [.v, .v, .v], [.int .u16, .int .u16, .int .i64], [.n, .n, .n], pg, fg⟩ ∧ (∀ {a1 : List Int} {a2 : Int} {a3 : Int} {y : Int × Int × Int}, lat_Both a1 a2 a3 = some y → pg (a1, a2, a3, ()) ∧ y = ((fg (a1, a2, a3, ())).1, (fg (a1, a2, a3, ())).2.1, (fg (a1, a2, a3, ())).2.2.1)) ∧ (∀ {a1 : List Int} {a2 : Int} {a3 : Int}, (lat_Both a1 a2 a3).isSome = true → pg (a1, a2, a3, ())) ∧ ∀ {a1 : List Int} {a2 : Int} {a3 : Int}, (lat_Both a1 a2 a3).getD ((0 : Int), (0 : Int), (0 : Int)) = ((fg (a1, a2, a3, ())).1, (fg (a1, a2, a3, ())).2.1, (fg (a1, a2, a3, ())).2.2.1) := by
  obtain ⟨pg, fg, h, hc, hi, hd⟩ := spec_hide lat_Both_runs
  refine ⟨pg, fg, h, ?_, ?_, ?_⟩
  · intro a1 a2 a3 y e
    obtain ⟨h1, h2⟩ := hc (a1, a2, a3, ()) (y.1, y.2.1, y.2.2, ()) (congrArg (Option.map fun r => (r.1, r.2.1, r.2.2, ())) e)
    exact ⟨h1, by first | (rw [h2]; done) | (rw [h2]; rfl)⟩
  · intro a1 a2 a3
    intro e
    exact hi (a1, a2, a3, ()) (map_isSome e)
  · intro a1 a2 a3
    rw [hd (a1, a2, a3, ())]
    cases lat_Both a1 a2 a3 <;> rfl
end Go.Proofs.Ytaachifkgcdeoaa.Lt
