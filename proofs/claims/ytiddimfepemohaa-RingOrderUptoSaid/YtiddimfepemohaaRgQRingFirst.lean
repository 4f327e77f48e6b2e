/- Functions of the program as functions that may fail, and that the code computes them (printed). Each theorem bears its conditions itself. -/
import Derived.Test.YtiddimfepemohaaRgDefs
import Derived.Test.YtiddimfepemohaaRgTab
import Derived.Test.YtiddimfepemohaaRgQringQRound
import Derived.Test.YtiddimfepemohaaRgQringQHalves
import Derived.Test.YtiddimfepemohaaRgQslicesQMaxQLintQint
open Go Go.Proofs.Ytiddimfepemohaa.Sy Go.Proofs
set_option maxHeartbeats 4000000
set_option maxRecDepth 100000
set_option cbv.maxSteps 10000000
set_option linter.unusedVariables false
set_option linter.unusedSimpArgs false
namespace Go.Proofs.Ytiddimfepemohaa.Rg
theorem RingFirst_runs : SpecRuns Try.prog 6 (oSpec [.list (.int .i64)] [.v] [.bool] [.n] fun x => (RingFirst x.1).map fun r => (r, ())) := by
  obtain ⟨pg8, fg8, hs8, hc8, hi8, hd8⟩ := ring_Round_sp
  obtain ⟨pg10, fg10, hs10, hc10, hi10, hd10⟩ := ring_Halves_sp
  obtain ⟨pg11, fg11, hs11, hc11, hi11, hd11⟩ := slices_Max_Lint_int_sp
  have hsp : SpecsOk Try.prog [(8, ⟨[.list (.int .i64)], [.v], [.int .i64, .int .i64, .int .i64], [.n, .n, .n], pg8, fg8⟩), (10, ⟨[.list (.int .i64)], [.v], [.int .i64, .int .i64, .int .i64], [.n, .n, .n], pg10, fg10⟩), (11, ⟨[.list (.int .i64)], [.v], [.int .i64], [.n], pg11, fg11⟩)] := (specsOk_cons Try.func8 (by kernel_rfl) (by kernel_rfl) hs8 (specsOk_cons Try.func10 (by kernel_rfl) (by kernel_rfl) hs10 (specsOk_cons Try.func11 (by kernel_rfl) (by kernel_rfl) hs11 specsOk_nil)))
  refine runs_of_o tabOk Try.func6 rfl (Nat.le_of_ble_eq_true rfl) rfl ?_
  rintro E ⟨(t0_1 : List Int), ⟨⟩⟩ y hP H hw
  obtain ⟨z, H1, rfl⟩ := map_out H
  replace H : RingFirst t0_1 = some z := H1
  clear hw H1
  unfold RingFirst at H
  refine tr_keep [0] (σ' := mkSl 87 0 [(0, .val (.list (.int .i64)) .n t0_1)]) rfl ?_
  refine tr_seq ?_
  refine tr_rg hP tabOk hsp fun A hA M hM => ?_
  cbv
  refine hM _ ?_
  refine tr_seq ?_
  refine tr_seq ?_
  refine tr_keep [0] (σ' := mkSl 87 0 [(0, .val (.list (.int .i64)) .n t0_1)]) (by subst hA; rfl) ?_
  clear hM hA M A
  refine tr_rg hP tabOk hsp fun A hA M hM => ?_
  cbv
  obtain ⟨r_2, hr1, H⟩ := bind_out H
  obtain ⟨pq1, eq1⟩ := hc8 hr1
  refine ⟨by subst hA; subst eq1; exact pq1, hM _ ?_⟩
  refine tr_seq ?_
  refine tr_keep [0, 3, 4, 5] (σ' := mkSl 87 0 [(0, .val (.list (.int .i64)) .n t0_1), (3, .val (.int .i64) .n r_2.1), (4, .val (.int .i64) .n r_2.2.1), (5, .val (.int .i64) .n r_2.2.2)]) (by subst hA; subst eq1; rfl) ?_
  clear pq1 eq1 hr1 hM hA M A
  refine tr_rg hP tabOk hsp fun A hA M hM => ?_
  cbv
  refine hM _ ?_
  refine tr_keep [0, 27] (σ' := mkSl 87 0 [(0, .val (.list (.int .i64)) .n t0_1), (27, .val (.bool) .n (((r_2.2.2 != (0 : Int)) || (r_2.1 != (1 : Int))) || (r_2.2.1 != (6 : Int))))]) (by subst hA; rfl) ?_
  clear hM hA M A
  refine tr_cond rfl (fun hc => ?_) (fun hc => ?_)
  · replace H := if_t H hc
    refine tr_keep [0] (σ' := mkSl 87 0 [(0, .val (.list (.int .i64)) .n t0_1)]) rfl ?_
    refine tr_seq ?_
    refine tr_rg hP tabOk hsp fun A hA M hM => ?_
    cbv
    refine hM _ ?_
    refine tr_ret ?_
    have hr := Option.some.inj H
    subst hr
    subst hA
    exact rfl
  · replace H := if_f H hc
    refine tr_keep [0] (σ' := mkSl 87 0 [(0, .val (.list (.int .i64)) .n t0_1)]) rfl ?_
    refine tr_skip ?_
    refine tr_seq ?_
    refine tr_rg hP tabOk hsp fun A hA M hM => ?_
    cbv
    obtain ⟨r_3, hr1, H⟩ := bind_out H
    obtain ⟨pq1, eq1⟩ := hc8 hr1
    refine ⟨by subst hA; subst eq1; exact pq1, hM _ ?_⟩
    refine tr_seq ?_
    refine tr_keep [0, 6, 7, 8] (σ' := mkSl 87 0 [(0, .val (.list (.int .i64)) .n t0_1), (6, .val (.int .i64) .n r_3.1), (7, .val (.int .i64) .n r_3.2.1), (8, .val (.int .i64) .n r_3.2.2)]) (by subst hA; subst eq1; rfl) ?_
    clear pq1 eq1 hr1 hM hA M A
    refine tr_rg hP tabOk hsp fun A hA M hM => ?_
    cbv
    obtain ⟨r_4, hr1, H⟩ := bind_out H
    obtain ⟨pq1, eq1⟩ := hc10 hr1
    refine ⟨by subst hA; subst eq1; exact pq1, hM _ ?_⟩
    refine tr_seq ?_
    refine tr_seq ?_
    refine tr_keep [0, 6, 7, 8, 9, 10, 11] (σ' := mkSl 87 0 [(0, .val (.list (.int .i64)) .n t0_1), (6, .val (.int .i64) .n r_3.1), (7, .val (.int .i64) .n r_3.2.1), (8, .val (.int .i64) .n r_3.2.2), (9, .val (.int .i64) .n r_4.1), (10, .val (.int .i64) .n r_4.2.1), (11, .val (.int .i64) .n r_4.2.2)]) (by subst hA; subst eq1; rfl) ?_
    clear pq1 eq1 hr1 hM hA M A
    refine tr_rg hP tabOk hsp fun A hA M hM => ?_
    cbv
    refine hM _ ?_
    refine tr_keep [0, 6, 7, 8, 9, 10, 11, 45] (σ' := mkSl 87 0 [(0, .val (.list (.int .i64)) .n t0_1), (6, .val (.int .i64) .n r_3.1), (7, .val (.int .i64) .n r_3.2.1), (8, .val (.int .i64) .n r_3.2.2), (9, .val (.int .i64) .n r_4.1), (10, .val (.int .i64) .n r_4.2.1), (11, .val (.int .i64) .n r_4.2.2), (45, .val (.bool) .n ((r_3.2.2 != (0 : Int)) || (r_4.2.2 != (0 : Int))))]) (by subst hA; rfl) ?_
    clear hM hA M A
    refine tr_cond rfl (fun hc => ?_) (fun hc => ?_)
    · replace H := if_t H hc
      refine tr_keep [0, 6, 7, 8, 9, 10, 11] (σ' := mkSl 87 0 [(0, .val (.list (.int .i64)) .n t0_1), (6, .val (.int .i64) .n r_3.1), (7, .val (.int .i64) .n r_3.2.1), (8, .val (.int .i64) .n r_3.2.2), (9, .val (.int .i64) .n r_4.1), (10, .val (.int .i64) .n r_4.2.1), (11, .val (.int .i64) .n r_4.2.2)]) rfl ?_
      refine tr_seq ?_
      refine tr_rg hP tabOk hsp fun A hA M hM => ?_
      cbv
      refine hM _ ?_
      refine tr_ret ?_
      have hr := Option.some.inj H
      subst hr
      subst hA
      exact rfl
    · replace H := if_f H hc
      refine tr_keep [0, 6, 7, 8, 9, 10, 11] (σ' := mkSl 87 0 [(0, .val (.list (.int .i64)) .n t0_1), (6, .val (.int .i64) .n r_3.1), (7, .val (.int .i64) .n r_3.2.1), (8, .val (.int .i64) .n r_3.2.2), (9, .val (.int .i64) .n r_4.1), (10, .val (.int .i64) .n r_4.2.1), (11, .val (.int .i64) .n r_4.2.2)]) rfl ?_
      refine tr_skip ?_
      refine tr_seq ?_
      refine tr_rg hP tabOk hsp fun A hA M hM => ?_
      cbv
      obtain ⟨ob1, H⟩ := ck_out H
      obtain ⟨r_5, er2, H⟩ := letO_out H
      obtain ⟨ob2, H⟩ := ck_out H
      have eq2 := er2.trans hd11
      refine ⟨by subst hA; exact ob1, by subst hA; subst eq2; exact fun h0 => hi11 (ob2 h0), hM _ ?_⟩
      refine tr_ret ?_
      have hr := Option.some.inj H
      subst hr
      subst hA
      subst eq2
      exact rfl
theorem RingFirst_sp : ∃ (pg : PT.denL [.list (.int .i64)] → Prop) (fg : PT.denL [.list (.int .i64)] → PT.denL [.bool]), SpecRuns Try.prog 6 ⟨[.list (.int .i64)], [.v], [.bool], [.n], pg, fg⟩ ∧ (∀ {a1 : List Int} {y : Bool}, RingFirst a1 = some y → pg (a1, ()) ∧ y = (fg (a1, ())).1) ∧ (∀ {a1 : List Int}, (RingFirst a1).isSome = true → pg (a1, ())) ∧ ∀ {a1 : List Int}, (RingFirst a1).getD false = (fg (a1, ())).1 := by
  obtain ⟨pg, fg, h, hc, hi, hd⟩ := spec_hide RingFirst_runs
  refine ⟨pg, fg, h, ?_, ?_, ?_⟩
  · intro a1 y e
    obtain ⟨h1, h2⟩ := hc (a1, ()) (y, ()) (congrArg (Option.map fun r => (r, ())) e)
    exact ⟨h1, by first | (rw [h2]; done) | (rw [h2]; rfl)⟩
  · intro a1
    intro e
    exact hi (a1, ()) (map_isSome e)
  · intro a1
    rw [hd (a1, ())]
    cases RingFirst a1 <;> rfl
end Go.Proofs.Ytiddimfepemohaa.Rg
