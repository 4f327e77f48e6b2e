/- Functions of the program as functions that may fail, and that the code computes them (printed). Each theorem bears its conditions itself. -/
import Derived.Test.YtiddimfepemohaaRgDefs
import Derived.Test.YtiddimfepemohaaRgTab
import Derived.Test.YtiddimfepemohaaRgQringQHalves
open Go Go.Proofs.Ytiddimfepemohaa.Sy Go.Proofs
set_option maxHeartbeats 4000000
set_option maxRecDepth 100000
set_option cbv.maxSteps 10000000
set_option linter.unusedVariables false
set_option linter.unusedSimpArgs false
namespace Go.Proofs.Ytiddimfepemohaa.Rg
theorem RingHalves_runs : SpecRuns Try.prog 4 (oSpec [.list (.int .i64)] [.v] [.bool] [.n] fun x => (RingHalves x.1).map fun r => (r, ())) := by
  obtain ⟨pg10, fg10, hs10, hc10, hi10, hd10⟩ := ring_Halves_sp
  have hsp : SpecsOk Try.prog [(10, ⟨[.list (.int .i64)], [.v], [.int .i64, .int .i64, .int .i64], [.n, .n, .n], pg10, fg10⟩)] := (specsOk_cons Try.func10 (by kernel_rfl) (by kernel_rfl) hs10 specsOk_nil)
  refine runs_of_o tabOk Try.func4 rfl (Nat.le_of_ble_eq_true rfl) rfl ?_
  rintro E ⟨(l_1 : List Int), ⟨⟩⟩ y hP H hw
  obtain ⟨z, H1, rfl⟩ := map_out H
  replace H : RingHalves l_1 = some z := H1
  clear hw H1
  unfold RingHalves at H
  refine tr_keep [0] (σ' := mkSl 60 0 [(0, .val (.list (.int .i64)) .n l_1)]) rfl ?_
  refine tr_seq ?_
  refine tr_rg hP tabOk hsp fun A hA M hM => ?_
  cbv
  refine hM _ ?_
  refine tr_seq ?_
  refine tr_seq ?_
  refine tr_keep [0] (σ' := mkSl 60 0 [(0, .val (.list (.int .i64)) .n l_1)]) (by subst hA; rfl) ?_
  clear hM hA M A
  refine tr_rg hP tabOk hsp fun A hA M hM => ?_
  cbv
  obtain ⟨r_2, hr1, H⟩ := bind_out H
  obtain ⟨pq1, eq1⟩ := hc10 hr1
  refine ⟨by subst hA; subst eq1; exact pq1, hM _ ?_⟩
  refine tr_seq ?_
  refine tr_keep [0, 3, 4, 5] (σ' := mkSl 60 0 [(0, .val (.list (.int .i64)) .n l_1), (3, .val (.int .i64) .n r_2.1), (4, .val (.int .i64) .n r_2.2.1), (5, .val (.int .i64) .n r_2.2.2)]) (by subst hA; subst eq1; rfl) ?_
  clear pq1 eq1 hr1 hM hA M A
  refine tr_rg hP tabOk hsp fun A hA M hM => ?_
  cbv
  refine hM _ ?_
  refine tr_keep [0, 26] (σ' := mkSl 60 0 [(0, .val (.list (.int .i64)) .n l_1), (26, .val (.bool) .n (((r_2.2.2 != (0 : Int)) || (r_2.1 != (0 : Int))) || (decide (r_2.2.1 < (4 : Int)))))]) (by subst hA; rfl) ?_
  clear hM hA M A
  refine tr_cond rfl (fun hc => ?_) (fun hc => ?_)
  · replace H := if_t H hc
    refine tr_keep [0] (σ' := mkSl 60 0 [(0, .val (.list (.int .i64)) .n l_1)]) rfl ?_
    refine tr_seq ?_
    refine tr_rg hP tabOk hsp fun A hA M hM => ?_
    cbv
    refine hM _ ?_
    refine tr_ret ?_
    have hr := Option.some.inj H
    subst hr
    subst hA
    exact rfl
  · replace H := if_f H hc
    refine tr_keep [0] (σ' := mkSl 60 0 [(0, .val (.list (.int .i64)) .n l_1)]) rfl ?_
    refine tr_skip ?_
    refine tr_seq ?_
    refine tr_rg hP tabOk hsp fun A hA M hM => ?_
    cbv
    obtain ⟨r_3, hr1, H⟩ := bind_out H
    obtain ⟨pq1, eq1⟩ := hc10 hr1
    refine ⟨by subst hA; subst eq1; exact pq1, hM _ ?_⟩
    refine tr_seq ?_
    refine tr_seq ?_
    refine tr_keep [0, 7, 8] (σ' := mkSl 60 0 [(0, .val (.list (.int .i64)) .n l_1), (7, .val (.int .i64) .n r_3.2.1), (8, .val (.int .i64) .n r_3.2.2)]) (by subst hA; subst eq1; rfl) ?_
    clear pq1 eq1 hr1 hM hA M A
    refine tr_rg hP tabOk hsp fun A hA M hM => ?_
    cbv
    refine hM _ ?_
    refine tr_keep [0, 7, 34] (σ' := mkSl 60 0 [(0, .val (.list (.int .i64)) .n l_1), (7, .val (.int .i64) .n r_3.2.1), (34, .val (.bool) .n (r_3.2.2 != (0 : Int)))]) (by subst hA; rfl) ?_
    clear hM hA M A
    refine tr_cond rfl (fun hc => ?_) (fun hc => ?_)
    · replace H := if_t H hc
      refine tr_keep [0, 7] (σ' := mkSl 60 0 [(0, .val (.list (.int .i64)) .n l_1), (7, .val (.int .i64) .n r_3.2.1)]) rfl ?_
      refine tr_seq ?_
      refine tr_rg hP tabOk hsp fun A hA M hM => ?_
      cbv
      refine hM _ ?_
      refine tr_ret ?_
      have hr := Option.some.inj H
      subst hr
      subst hA
      exact rfl
    · replace H := if_f H hc
      refine tr_keep [0, 7] (σ' := mkSl 60 0 [(0, .val (.list (.int .i64)) .n l_1), (7, .val (.int .i64) .n r_3.2.1)]) rfl ?_
      refine tr_skip ?_
      refine tr_seq ?_
      refine tr_rg hP tabOk hsp fun A hA M hM => ?_
      cbv
      refine hM _ ?_
      refine tr_seq ?_
      refine tr_keepL [7, 9] (fun n_4 : Int => mkSl 60 0 [(7, .val (.int .i64) .n r_3.2.1), (9, .val (.int .i64) .n n_4)]) H (by subst hA; rfl) (fun n_4 H => ?_)
      clear hM hA M A
      refine tr_rg hP tabOk hsp fun A hA M hM => ?_
      cbv
      refine hM _ ?_
      refine tr_seq ?_
      refine tr_block ?_
      refine tr_keep [7, 9, 10] (σ' := mkSl 60 0 [(7, .val (.int .i64) .n r_3.2.1), (9, .val (.int .i64) .n n_4), (10, .val (.int .i64) .n (0 : Int))]) (by subst hA; rfl) ?_
      clear hM hA M A
      obtain ⟨q_7, hq, H⟩ := bind_out H
      refine tr_loopB 0 (fun x : Int => RingHalves_L1 n_4 x) (fun x : Int => mkSl 60 0 [(7, .val (.int .i64) .n r_3.2.1), (9, .val (.int .i64) .n n_4), (10, .val (.int .i64) .n x)]) [7, 9, 10] (fun q_7 : Int => mkSl 60 0 [(7, .val (.int .i64) .n r_3.2.1), (9, .val (.int .i64) .n n_4), (10, .val (.int .i64) .n q_7)]) [7, 9, 10] hq rfl (fun σ' h => ?_) (fun x r1 H => ?_)
      · refine tr_keep [7, 9, 10] h ?_
        refine tr_seq ?_
        refine tr_rg hP tabOk hsp fun A hA M hM => ?_
        cbv
        refine hM _ ?_
        refine tr_ret ?_
        have hr := Option.some.inj H
        subst hr
        subst hA
        exact rfl
      · obtain ⟨doublings_5, rfl⟩ : ∃ v, v = x := ⟨x, rfl⟩
        replace H : RingHalves_L1 n_4 doublings_5 = some r1 := H
        unfold RingHalves_L1 at H
        refine tr_seq ?_
        refine tr_seq ?_
        refine tr_rg hP tabOk hsp fun A hA M hM => ?_
        cbv
        obtain ⟨ob1, H⟩ := ck_out H
        refine ⟨by subst hA; exact ob1, hM _ ?_⟩
        refine tr_keep [7, 9, 10, 42] (σ' := mkSl 60 0 [(7, .val (.int .i64) .n r_3.2.1), (9, .val (.int .i64) .n n_4), (10, .val (.int .i64) .n doublings_5), (42, .val (.bool) .n (decide ((arR .shl .i64 (1 : Int) doublings_5) < n_4)))]) (by subst hA; rfl) ?_
        clear ob1 hM hA M A
        refine tr_cond rfl (fun hc => ?_) (fun hc => ?_)
        · replace H := if_t H hc
          refine tr_keep [7, 9, 10] (σ' := mkSl 60 0 [(7, .val (.int .i64) .n r_3.2.1), (9, .val (.int .i64) .n n_4), (10, .val (.int .i64) .n doublings_5)]) rfl ?_
          refine tr_skip ?_
          refine tr_block ?_
          refine tr_rg hP tabOk hsp fun A hA M hM => ?_
          cbv
          refine hM _ ?_
          exact Exists.intro _ (And.intro (Option.some.inj H).symm (by subst hA; rfl))
        · replace H := if_f H hc
          refine tr_keep [7, 9, 10] (σ' := mkSl 60 0 [(7, .val (.int .i64) .n r_3.2.1), (9, .val (.int .i64) .n n_4), (10, .val (.int .i64) .n doublings_5)]) rfl ?_
          refine tr_exit ?_
          exact And.intro rfl (Exists.intro _ (And.intro (Option.some.inj H).symm (by rfl)))
theorem RingHalves_sp : ∃ (pg : PT.denL [.list (.int .i64)] → Prop) (fg : PT.denL [.list (.int .i64)] → PT.denL [.bool]), SpecRuns Try.prog 4 ⟨[.list (.int .i64)], [.v], [.bool], [.n], pg, fg⟩ ∧ (∀ {a1 : List Int} {y : Bool}, RingHalves a1 = some y → pg (a1, ()) ∧ y = (fg (a1, ())).1) ∧ (∀ {a1 : List Int}, (RingHalves a1).isSome = true → pg (a1, ())) ∧ ∀ {a1 : List Int}, (RingHalves a1).getD false = (fg (a1, ())).1 := by
  obtain ⟨pg, fg, h, hc, hi, hd⟩ := spec_hide RingHalves_runs
  refine ⟨pg, fg, h, ?_, ?_, ?_⟩
  · intro a1 y e
    obtain ⟨h1, h2⟩ := hc (a1, ()) (y, ()) (congrArg (Option.map fun r => (r, ())) e)
    exact ⟨h1, by first | (rw [h2]; done) | (rw [h2]; rfl)⟩
  · intro a1
    intro e
    exact hi (a1, ()) (map_isSome e)
  · intro a1
    rw [hd (a1, ())]
    cases RingHalves a1 <;> rfl
end Go.Proofs.Ytiddimfepemohaa.Rg
