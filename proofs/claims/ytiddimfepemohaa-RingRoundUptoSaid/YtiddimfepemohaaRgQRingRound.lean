/- Functions of the program as functions that may fail, and that the code computes them (printed). Each theorem bears its conditions itself. -/
import Derived.Test.YtiddimfepemohaaRgDefs
import Derived.Test.YtiddimfepemohaaRgTab
import Derived.Test.YtiddimfepemohaaRgQringQRound
import Derived.Test.YtiddimfepemohaaRgQRQRest
open Go Go.Proofs.Ytiddimfepemohaa.Sy Go.Proofs
set_option maxHeartbeats 4000000
set_option maxRecDepth 100000
set_option linter.unusedVariables false
set_option linter.unusedSimpArgs false
namespace Go.Proofs.Ytiddimfepemohaa.Rg
theorem RingRound_runs : SpecRuns Try.prog 3 (oSpec [.list (.int .i64), .int .i64] [.v, .v] [.bool] [.n] fun x => (RingRound x.1 x.2.1).map fun r => (r, ())) := by
  obtain ⟨pg8, fg8, hs8, hc8, hi8, hd8⟩ := ring_Round_sp
  obtain ⟨pg9, fg9, hs9, hc9, hi9, hd9⟩ := R_Rest_sp
  have hsp : SpecsOk Try.prog [(8, ⟨[.list (.int .i64)], [.v], [.int .i64, .int .i64, .int .i64], [.n, .n, .n], pg8, fg8⟩), (9, ⟨[.int .i64, .int .i64], [.v, .v], [.int .i64], [.n], pg9, fg9⟩)] := (specsOk_cons Try.func8 (by kernel_rfl) (by kernel_rfl) hs8 (specsOk_cons Try.func9 (by kernel_rfl) (by kernel_rfl) hs9 specsOk_nil))
  refine runs_of_o tabOk Try.func3 rfl (Nat.le_of_ble_eq_true rfl) rfl ?_
  rintro E ⟨(t0_1 : List Int), (t1_2 : Int), ⟨⟩⟩ y hP H hw
  obtain ⟨z, H1, rfl⟩ := map_out H
  replace H : RingRound t0_1 t1_2 = some z := H1
  clear hw H1
  unfold RingRound at H
  refine tr_keep [0, 1] (σ' := mkSl 111 0 [(0, .val (.list (.int .i64)) .n t0_1), (1, .val (.int .i64) .n t1_2)]) rfl ?_
  refine tr_seq ?_
  refine tr_rg hP tabOk hsp fun A hA M hM => ?_
  cbv
  refine hM _ ?_
  refine tr_seq ?_
  refine tr_seq ?_
  refine tr_keep [0, 1] (σ' := mkSl 111 0 [(0, .val (.list (.int .i64)) .n t0_1), (1, .val (.int .i64) .n t1_2)]) (by subst hA; rfl) ?_
  clear hM hA M A
  refine tr_rg hP tabOk hsp fun A hA M hM => ?_
  cbv
  obtain ⟨r_3, hr1, H⟩ := bind_out H
  obtain ⟨pq1, eq1⟩ := hc8 hr1
  refine ⟨by subst hA; subst eq1; exact pq1, hM _ ?_⟩
  refine tr_seq ?_
  refine tr_keep [0, 1, 6, 7] (σ' := mkSl 111 0 [(0, .val (.list (.int .i64)) .n t0_1), (1, .val (.int .i64) .n t1_2), (6, .val (.int .i64) .n r_3.2.1), (7, .val (.int .i64) .n r_3.2.2)]) (by subst hA; subst eq1; rfl) ?_
  clear pq1 eq1 hr1 hM hA M A
  refine tr_rg hP tabOk hsp fun A hA M hM => ?_
  cbv
  refine hM _ ?_
  refine tr_keep [0, 1, 32] (σ' := mkSl 111 0 [(0, .val (.list (.int .i64)) .n t0_1), (1, .val (.int .i64) .n t1_2), (32, .val (.bool) .n ((r_3.2.2 != (0 : Int)) || (r_3.2.1 != (1 : Int))))]) (by subst hA; rfl) ?_
  clear hM hA M A
  refine tr_cond rfl (fun hc => ?_) (fun hc => ?_)
  · replace H := if_t H hc
    refine tr_keep [0, 1] (σ' := mkSl 111 0 [(0, .val (.list (.int .i64)) .n t0_1), (1, .val (.int .i64) .n t1_2)]) rfl ?_
    refine tr_seq ?_
    refine tr_rg hP tabOk hsp fun A hA M hM => ?_
    cbv
    refine hM _ ?_
    refine tr_ret ?_
    have hr := Option.some.inj H
    subst hr
    subst hA
    exact rfl
  · replace H := if_f H hc
    refine tr_keep [0, 1] (σ' := mkSl 111 0 [(0, .val (.list (.int .i64)) .n t0_1), (1, .val (.int .i64) .n t1_2)]) rfl ?_
    refine tr_skip ?_
    refine tr_seq ?_
    refine tr_rg hP tabOk hsp fun A hA M hM => ?_
    cbv
    obtain ⟨r_4, hr1, H⟩ := bind_out H
    obtain ⟨pq1, eq1⟩ := hc8 hr1
    refine ⟨by subst hA; subst eq1; exact pq1, hM _ ?_⟩
    refine tr_seq ?_
    refine tr_keep [0, 1, 9, 10] (σ' := mkSl 111 0 [(0, .val (.list (.int .i64)) .n t0_1), (1, .val (.int .i64) .n t1_2), (9, .val (.int .i64) .n r_4.2.1), (10, .val (.int .i64) .n r_4.2.2)]) (by subst hA; subst eq1; rfl) ?_
    clear pq1 eq1 hr1 hM hA M A
    refine tr_rg hP tabOk hsp fun A hA M hM => ?_
    cbv
    refine hM _ ?_
    refine tr_seq ?_
    refine tr_seq ?_
    refine tr_keepL [1, 9, 10, 11] (fun t11_5 : Int => mkSl 111 0 [(1, .val (.int .i64) .n t1_2), (9, .val (.int .i64) .n r_4.2.1), (10, .val (.int .i64) .n r_4.2.2), (11, .val (.int .i64) .n t11_5)]) H (by subst hA; rfl) (fun t11_5 H => ?_)
    clear hM hA M A
    refine tr_rg hP tabOk hsp fun A hA M hM => ?_
    cbv
    obtain ⟨ob1, H⟩ := ck_out H
    refine ⟨by subst hA; exact ob1, hM _ ?_⟩
    refine tr_keep [1, 58] (σ' := mkSl 111 0 [(1, .val (.int .i64) .n t1_2), (58, .val (.bool) .n ((r_4.2.2 == (0 : Int)) && ((decide (r_4.2.1 < (arR .sub .i64 (arR .mul .i64 (2 : Int) t11_5) (1 : Int)))) || (decide (r_4.2.1 > (arR .quo .i64 (arR .mul .i64 t11_5 (arR .add .i64 t11_5 (1 : Int))) (2 : Int)))))))]) (by subst hA; rfl) ?_
    clear ob1 hM hA M A
    refine tr_cond rfl (fun hc => ?_) (fun hc => ?_)
    · replace H := if_t H hc
      refine tr_keep [1] (σ' := mkSl 111 0 [(1, .val (.int .i64) .n t1_2)]) rfl ?_
      refine tr_seq ?_
      refine tr_rg hP tabOk hsp fun A hA M hM => ?_
      cbv
      refine hM _ ?_
      refine tr_ret ?_
      have hr := Option.some.inj H
      subst hr
      subst hA
      exact rfl
    · replace H := if_f H hc
      refine tr_keep [1] (σ' := mkSl 111 0 [(1, .val (.int .i64) .n t1_2)]) rfl ?_
      refine tr_skip ?_
      refine tr_seq ?_
      refine tr_rg hP tabOk hsp fun A hA M hM => ?_
      cbv
      obtain ⟨r_6, hr1, H⟩ := bind_out H
      obtain ⟨pq1, eq1⟩ := hc9 hr1
      refine ⟨by subst hA; subst eq1; exact pq1, hM _ ?_⟩
      refine tr_seq ?_
      refine tr_keepL [1] (fun t1_7 : Int => mkSl 111 0 [(1, .val (.int .i64) .n t1_7)]) H (by subst hA; subst eq1; rfl) (fun t1_7 H => ?_)
      clear pq1 eq1 hr1 hM hA M A
      refine tr_rg hP tabOk hsp fun A hA M hM => ?_
      cbv
      refine hM _ ?_
      refine tr_seq ?_
      refine tr_seq ?_
      refine tr_keep [1, 12, 13] (σ' := mkSl 111 0 [(1, .val (.int .i64) .n t1_7), (12, .val (.list (.int .i64)) (.l .n) ([] : List Int)), (13, .val (.list (.int .i64)) (.l .n) ([] : List Int))]) (by subst hA; rfl) ?_
      clear hM hA M A
      refine tr_rg hP tabOk hsp fun A hA M hM => ?_
      cbv
      refine hM _ ?_
      refine tr_block ?_
      refine tr_keep [1, 12, 13, 62, 63] (σ' := mkSl 111 0 [(1, .val (.int .i64) .n t1_7), (12, .val (.list (.int .i64)) (.l .n) ([] : List Int)), (13, .val (.list (.int .i64)) (.l .n) ([] : List Int)), (62, .val (.int .i64) .n t1_7), (63, .val (.int .i64) .n (0 : Int))]) (by subst hA; rfl) ?_
      clear hM hA M A
      obtain ⟨q_13, hq, H⟩ := bind_out H
      refine tr_loopB 0 (fun x : List Int × List Int × Int => RingRound_L1 t1_7 x.1 x.2.1 x.2.2) (fun x : List Int × List Int × Int => mkSl 111 0 [(1, .val (.int .i64) .n t1_7), (12, .val (.list (.int .i64)) (.l .n) x.1), (13, .val (.list (.int .i64)) (.l .n) x.2.1), (62, .val (.int .i64) .n t1_7), (63, .val (.int .i64) .n x.2.2)]) [1, 12, 13, 62, 63] (fun q_13 : List Int × List Int => mkSl 111 0 [(1, .val (.int .i64) .n t1_7), (12, .val (.list (.int .i64)) (.l .n) q_13.1), (13, .val (.list (.int .i64)) (.l .n) q_13.2)]) [1, 12, 13] hq rfl (fun σ' h => ?_) (fun x r1 H => ?_)
      · refine tr_keep [1, 12, 13] h ?_
        refine tr_seq ?_
        refine tr_rg hP tabOk hsp fun A hA M hM => ?_
        cbv
        obtain ⟨r_16, hr1, H⟩ := bind_out H
        obtain ⟨pq1, eq1⟩ := hc8 hr1
        refine ⟨by subst hA; subst eq1; exact pq1, hM _ ?_⟩
        refine tr_seq ?_
        refine tr_keep [1, 13, 16, 17] (σ' := mkSl 111 0 [(1, .val (.int .i64) .n t1_7), (13, .val (.list (.int .i64)) (.l .n) q_13.2), (16, .val (.int .i64) .n r_16.2.1), (17, .val (.int .i64) .n r_16.2.2)]) (by subst hA; subst eq1; rfl) ?_
        clear pq1 eq1 hr1 hM hA M A
        refine tr_rg hP tabOk hsp fun A hA M hM => ?_
        cbv
        obtain ⟨r_17, hr1, H⟩ := bind_out H
        obtain ⟨pq1, eq1⟩ := hc8 hr1
        refine ⟨by subst hA; subst eq1; exact pq1, hM _ ?_⟩
        refine tr_seq ?_
        refine tr_keep [1, 16, 17, 19, 20] (σ' := mkSl 111 0 [(1, .val (.int .i64) .n t1_7), (16, .val (.int .i64) .n r_16.2.1), (17, .val (.int .i64) .n r_16.2.2), (19, .val (.int .i64) .n r_17.2.1), (20, .val (.int .i64) .n r_17.2.2)]) (by subst hA; subst eq1; rfl) ?_
        clear pq1 eq1 hr1 hM hA M A
        refine tr_rg hP tabOk hsp fun A hA M hM => ?_
        cbv
        obtain ⟨ob1, H⟩ := ck_out H
        refine ⟨by subst hA; exact ob1, hM _ ?_⟩
        refine tr_ret ?_
        have hr := Option.some.inj H
        subst hr
        subst hA
        exact rfl
      · obtain ⟨t12_8, t13_9, t63_10⟩ := x
        replace H : RingRound_L1 t1_7 t12_8 t13_9 t63_10 = some r1 := H
        unfold RingRound_L1 at H
        refine tr_seq ?_
        refine tr_rg hP tabOk hsp fun A hA M hM => ?_
        cbv
        refine hM _ ?_
        refine tr_seq ?_
        refine tr_keep [1, 12, 13, 62, 63, 64] (σ' := mkSl 111 0 [(1, .val (.int .i64) .n t1_7), (12, .val (.list (.int .i64)) (.l .n) t12_8), (13, .val (.list (.int .i64)) (.l .n) t13_9), (62, .val (.int .i64) .n t1_7), (63, .val (.int .i64) .n t63_10), (64, .val (.bool) .n (decide (t63_10 < t1_7)))]) (by subst hA; rfl) ?_
        clear hM hA M A
        refine tr_cond rfl (fun hc => ?_) (fun hc => ?_)
        · replace H := if_t H hc
          refine tr_keep [1, 12, 13, 62, 63] (σ' := mkSl 111 0 [(1, .val (.int .i64) .n t1_7), (12, .val (.list (.int .i64)) (.l .n) t12_8), (13, .val (.list (.int .i64)) (.l .n) t13_9), (62, .val (.int .i64) .n t1_7), (63, .val (.int .i64) .n t63_10)]) rfl ?_
          refine tr_skip ?_
          refine tr_seq ?_
          refine tr_block ?_
          refine tr_seq ?_
          refine tr_rg hP tabOk hsp fun A hA M hM => ?_
          cbv
          refine hM _ ?_
          refine tr_keep [1, 12, 13, 14, 62, 63] (σ' := mkSl 111 0 [(1, .val (.int .i64) .n t1_7), (12, .val (.list (.int .i64)) (.l .n) t12_8), (13, .val (.list (.int .i64)) (.l .n) t13_9), (14, .val (.int .i64) .n t63_10), (62, .val (.int .i64) .n t1_7), (63, .val (.int .i64) .n t63_10)]) (by subst hA; rfl) ?_
          clear hM hA M A
          refine tr_rg hP tabOk hsp fun A hA M hM => ?_
          cbv
          obtain ⟨ob1, H⟩ := ck_out H
          obtain ⟨ob2, H⟩ := ck_out H
          refine ⟨by subst hA; exact ob1, by subst hA; exact ob2, hM _ ?_⟩
          refine tr_keepL [1, 12, 13, 62, 63] (fun t12_14 : List Int => mkSl 111 0 [(1, .val (.int .i64) .n t1_7), (12, .val (.list (.int .i64)) (.l .n) t12_14), (13, .val (.list (.int .i64)) (.l .n) (t13_9 ++ ([arR .sub .i64 t1_7 t63_10]))), (62, .val (.int .i64) .n t1_7), (63, .val (.int .i64) .n t63_10)]) H (by subst hA; rfl) (fun t12_14 H => ?_)
          refine tr_keepL [1, 12, 13, 62, 63] (fun t13_15 : List Int => mkSl 111 0 [(1, .val (.int .i64) .n t1_7), (12, .val (.list (.int .i64)) (.l .n) t12_14), (13, .val (.list (.int .i64)) (.l .n) t13_15), (62, .val (.int .i64) .n t1_7), (63, .val (.int .i64) .n t63_10)]) H (by rfl) (fun t13_15 H => ?_)
          clear ob2 ob1 hM hA M A
          refine tr_rg hP tabOk hsp fun A hA M hM => ?_
          cbv
          refine hM _ ?_
          exact Exists.intro _ (And.intro (Option.some.inj H).symm (by subst hA; rfl))
        · replace H := if_f H hc
          refine tr_keep [1, 12, 13, 62, 63] (σ' := mkSl 111 0 [(1, .val (.int .i64) .n t1_7), (12, .val (.list (.int .i64)) (.l .n) t12_8), (13, .val (.list (.int .i64)) (.l .n) t13_9), (62, .val (.int .i64) .n t1_7), (63, .val (.int .i64) .n t63_10)]) rfl ?_
          refine tr_exit ?_
          exact And.intro rfl (Exists.intro _ (And.intro (Option.some.inj H).symm (by rfl)))
theorem RingRound_sp : ∃ (pg : PT.denL [.list (.int .i64), .int .i64] → Prop) (fg : PT.denL [.list (.int .i64), .int .i64] → PT.denL [.bool]), SpecRuns Try.prog 3 ⟨[.list (.int .i64), .int .i64], [.v, .v], [.bool], [.n], pg, fg⟩ ∧ (∀ {a1 : List Int} {a2 : Int} {y : Bool}, RingRound a1 a2 = some y → pg (a1, a2, ()) ∧ y = (fg (a1, a2, ())).1) ∧ (∀ {a1 : List Int} {a2 : Int}, (RingRound a1 a2).isSome = true → pg (a1, a2, ())) ∧ ∀ {a1 : List Int} {a2 : Int}, (RingRound a1 a2).getD false = (fg (a1, a2, ())).1 := by
  obtain ⟨pg, fg, h, hc, hi, hd⟩ := spec_hide RingRound_runs
  refine ⟨pg, fg, h, ?_, ?_, ?_⟩
  · intro a1 a2 y e
    obtain ⟨h1, h2⟩ := hc (a1, a2, ()) (y, ()) (congrArg (Option.map fun r => (r, ())) e)
    exact ⟨h1, by first | (rw [h2]; done) | (rw [h2]; rfl)⟩
  · intro a1 a2
    intro e
    exact hi (a1, a2, ()) (map_isSome e)
  · intro a1 a2
    rw [hd (a1, a2, ())]
    cases RingRound a1 a2 <;> rfl
end Go.Proofs.Ytiddimfepemohaa.Rg
