/- Functions of the program as functions that may fail, and that the code computes them (printed). Each theorem bears its conditions itself. -/
import Derived.Test.YtiddimfepemohaaRgDefs
import Derived.Test.YtiddimfepemohaaRgTab
import Derived.Test.YtiddimfepemohaaRgQringQRound
import Derived.Test.YtiddimfepemohaaRgQringQHalves
open Go Go.Proofs.Ytiddimfepemohaa.Sy Go.Proofs
set_option maxHeartbeats 4000000
set_option maxRecDepth 100000
set_option cbv.maxSteps 10000000
set_option linter.unusedVariables false
set_option linter.unusedSimpArgs false
namespace Go.Proofs.Ytiddimfepemohaa.Rg
theorem RingOrder_runs : SpecRuns Try.prog 5 (oSpec [.list (.int .i64)] [.v] [.bool] [.n] fun x => (RingOrder x.1).map fun r => (r, ())) := by
  obtain ⟨pg8, fg8, hs8, hc8, hi8, hd8⟩ := ring_Round_sp
  obtain ⟨pg10, fg10, hs10, hc10, hi10, hd10⟩ := ring_Halves_sp
  have hsp : SpecsOk Try.prog [(8, ⟨[.list (.int .i64)], [.v], [.int .i64, .int .i64, .int .i64], [.n, .n, .n], pg8, fg8⟩), (10, ⟨[.list (.int .i64)], [.v], [.int .i64, .int .i64, .int .i64], [.n, .n, .n], pg10, fg10⟩)] := (specsOk_cons Try.func8 (by kernel_rfl) (by kernel_rfl) hs8 (specsOk_cons Try.func10 (by kernel_rfl) (by kernel_rfl) hs10 specsOk_nil))
  refine runs_of_o tabOk Try.func5 rfl (Nat.le_of_ble_eq_true rfl) rfl ?_
  rintro E ⟨(t0_1 : List Int), ⟨⟩⟩ y hP H hw
  obtain ⟨z, H1, rfl⟩ := map_out H
  replace H : RingOrder t0_1 = some z := H1
  clear hw H1
  unfold RingOrder at H
  refine tr_keep [0] (σ' := mkSl 108 0 [(0, .val (.list (.int .i64)) .n t0_1)]) rfl ?_
  refine tr_seq ?_
  refine tr_rg hP tabOk hsp fun A hA M hM => ?_
  cbv
  refine hM _ ?_
  refine tr_seq ?_
  refine tr_seq ?_
  refine tr_keep [0] (σ' := mkSl 108 0 [(0, .val (.list (.int .i64)) .n t0_1)]) (by subst hA; rfl) ?_
  clear hM hA M A
  refine tr_rg hP tabOk hsp fun A hA M hM => ?_
  cbv
  obtain ⟨r_2, hr1, H⟩ := bind_out H
  obtain ⟨pq1, eq1⟩ := hc8 hr1
  refine ⟨by subst hA; subst eq1; exact pq1, hM _ ?_⟩
  refine tr_seq ?_
  refine tr_keep [0, 3, 4, 5] (σ' := mkSl 108 0 [(0, .val (.list (.int .i64)) .n t0_1), (3, .val (.int .i64) .n r_2.1), (4, .val (.int .i64) .n r_2.2.1), (5, .val (.int .i64) .n r_2.2.2)]) (by subst hA; subst eq1; rfl) ?_
  clear pq1 eq1 hr1 hM hA M A
  refine tr_rg hP tabOk hsp fun A hA M hM => ?_
  cbv
  refine hM _ ?_
  refine tr_keep [0, 36] (σ' := mkSl 108 0 [(0, .val (.list (.int .i64)) .n t0_1), (36, .val (.bool) .n (((r_2.2.2 != (0 : Int)) || (r_2.1 != (1 : Int))) || (r_2.2.1 != (3 : Int))))]) (by subst hA; rfl) ?_
  clear hM hA M A
  refine tr_cond rfl (fun hc => ?_) (fun hc => ?_)
  · replace H := if_t H hc
    refine tr_keep [0] (σ' := mkSl 108 0 [(0, .val (.list (.int .i64)) .n t0_1)]) rfl ?_
    refine tr_seq ?_
    refine tr_rg hP tabOk hsp fun A hA M hM => ?_
    cbv
    refine hM _ ?_
    refine tr_ret ?_
    have hr := Option.some.inj H
    subst hr
    subst hA
    exact rfl
  · replace H := if_f H hc
    refine tr_keep [0] (σ' := mkSl 108 0 [(0, .val (.list (.int .i64)) .n t0_1)]) rfl ?_
    refine tr_skip ?_
    refine tr_seq ?_
    refine tr_rg hP tabOk hsp fun A hA M hM => ?_
    cbv
    refine hM _ ?_
    refine tr_seq ?_
    refine tr_seq ?_
    refine tr_keep [0, 6] (σ' := mkSl 108 0 [(0, .val (.list (.int .i64)) .n t0_1), (6, .val (.list (.int .i64)) (.l .n) ([] : List Int))]) (by subst hA; rfl) ?_
    clear hM hA M A
    refine tr_rg hP tabOk hsp fun A hA M hM => ?_
    cbv
    refine hM _ ?_
    refine tr_block ?_
    refine tr_keepL [0, 6, 37, 38, 39] (fun t38_3 : Int => mkSl 108 0 [(0, .val (.list (.int .i64)) .n t0_1), (6, .val (.list (.int .i64)) (.l .n) ([] : List Int)), (37, .val (.list (.int .i64)) .n t0_1), (38, .val (.int .i64) .n t38_3), (39, .val (.int .i64) .n (0 : Int))]) H (by subst hA; rfl) (fun t38_3 H => ?_)
    clear hM hA M A
    obtain ⟨q, hq, Hl, Hr⟩ := bindE_out H
    refine tr_loopE 0 (fun x : List Int × Int => RingOrder_L1 t0_1 t38_3 x.1 x.2) (fun x : List Int × Int => mkSl 108 0 [(0, .val (.list (.int .i64)) .n t0_1), (6, .val (.list (.int .i64)) (.l .n) x.1), (37, .val (.list (.int .i64)) .n t0_1), (38, .val (.int .i64) .n t38_3), (39, .val (.int .i64) .n x.2)]) [0, 6, 37, 38, 39] (fun q_7 : List Int => mkSl 108 0 [(0, .val (.list (.int .i64)) .n t0_1), (6, .val (.list (.int .i64)) (.l .n) q_7)]) [0, 6] hq rfl Hr (fun q_7 hl σ' h => ?_) (fun x r1 H => ?_)
    · replace H := Hl q_7 hl
      refine tr_keep [0, 6] h ?_
      refine tr_seq ?_
      refine tr_rg hP tabOk hsp fun A hA M hM => ?_
      cbv
      obtain ⟨r_10, hr1, H⟩ := bind_out H
      obtain ⟨pq1, eq1⟩ := hc8 hr1
      refine ⟨by subst hA; subst eq1; exact pq1, hM _ ?_⟩
      refine tr_seq ?_
      refine tr_keep [0, 6, 9, 10, 11] (σ' := mkSl 108 0 [(0, .val (.list (.int .i64)) .n t0_1), (6, .val (.list (.int .i64)) (.l .n) q_7), (9, .val (.int .i64) .n r_10.1), (10, .val (.int .i64) .n r_10.2.1), (11, .val (.int .i64) .n r_10.2.2)]) (by subst hA; subst eq1; rfl) ?_
      clear pq1 eq1 hr1 hM hA M A
      refine tr_rg hP tabOk hsp fun A hA M hM => ?_
      cbv
      obtain ⟨r_11, hr1, H⟩ := bind_out H
      obtain ⟨pq1, eq1⟩ := hc8 hr1
      refine ⟨by subst hA; subst eq1; exact pq1, hM _ ?_⟩
      refine tr_seq ?_
      refine tr_keep [0, 6, 9, 10, 11, 12, 13, 14] (σ' := mkSl 108 0 [(0, .val (.list (.int .i64)) .n t0_1), (6, .val (.list (.int .i64)) (.l .n) q_7), (9, .val (.int .i64) .n r_10.1), (10, .val (.int .i64) .n r_10.2.1), (11, .val (.int .i64) .n r_10.2.2), (12, .val (.int .i64) .n r_11.1), (13, .val (.int .i64) .n r_11.2.1), (14, .val (.int .i64) .n r_11.2.2)]) (by subst hA; subst eq1; rfl) ?_
      clear pq1 eq1 hr1 hM hA M A
      refine tr_rg hP tabOk hsp fun A hA M hM => ?_
      cbv
      obtain ⟨r_12, hr1, H⟩ := bind_out H
      obtain ⟨pq1, eq1⟩ := hc10 hr1
      refine ⟨by subst hA; subst eq1; exact pq1, hM _ ?_⟩
      refine tr_seq ?_
      refine tr_keep [6, 9, 10, 11, 12, 13, 14, 15, 16, 17] (σ' := mkSl 108 0 [(6, .val (.list (.int .i64)) (.l .n) q_7), (9, .val (.int .i64) .n r_10.1), (10, .val (.int .i64) .n r_10.2.1), (11, .val (.int .i64) .n r_10.2.2), (12, .val (.int .i64) .n r_11.1), (13, .val (.int .i64) .n r_11.2.1), (14, .val (.int .i64) .n r_11.2.2), (15, .val (.int .i64) .n r_12.1), (16, .val (.int .i64) .n r_12.2.1), (17, .val (.int .i64) .n r_12.2.2)]) (by subst hA; subst eq1; rfl) ?_
      clear pq1 eq1 hr1 hM hA M A
      refine tr_rg hP tabOk hsp fun A hA M hM => ?_
      cbv
      obtain ⟨r_13, hr1, H⟩ := bind_out H
      obtain ⟨pq1, eq1⟩ := hc10 hr1
      refine ⟨by subst hA; subst eq1; exact pq1, hM _ ?_⟩
      refine tr_seq ?_
      refine tr_keep [9, 10, 11, 12, 13, 14, 15, 16, 17, 18, 19, 20] (σ' := mkSl 108 0 [(9, .val (.int .i64) .n r_10.1), (10, .val (.int .i64) .n r_10.2.1), (11, .val (.int .i64) .n r_10.2.2), (12, .val (.int .i64) .n r_11.1), (13, .val (.int .i64) .n r_11.2.1), (14, .val (.int .i64) .n r_11.2.2), (15, .val (.int .i64) .n r_12.1), (16, .val (.int .i64) .n r_12.2.1), (17, .val (.int .i64) .n r_12.2.2), (18, .val (.int .i64) .n r_13.1), (19, .val (.int .i64) .n r_13.2.1), (20, .val (.int .i64) .n r_13.2.2)]) (by subst hA; subst eq1; rfl) ?_
      clear pq1 eq1 hr1 hM hA M A
      refine tr_rg hP tabOk hsp fun A hA M hM => ?_
      cbv
      refine hM _ ?_
      refine tr_ret ?_
      have hr := Option.some.inj H
      subst hr
      subst hA
      exact rfl
    · obtain ⟨t6_4, t39_5⟩ := x
      replace H : RingOrder_L1 t0_1 t38_3 t6_4 t39_5 = some r1 := H
      unfold RingOrder_L1 at H
      refine tr_seq ?_
      refine tr_rg hP tabOk hsp fun A hA M hM => ?_
      cbv
      refine hM _ ?_
      refine tr_seq ?_
      refine tr_keep [0, 6, 37, 38, 39, 40] (σ' := mkSl 108 0 [(0, .val (.list (.int .i64)) .n t0_1), (6, .val (.list (.int .i64)) (.l .n) t6_4), (37, .val (.list (.int .i64)) .n t0_1), (38, .val (.int .i64) .n t38_3), (39, .val (.int .i64) .n t39_5), (40, .val (.bool) .n (decide (t39_5 < t38_3)))]) (by subst hA; rfl) ?_
      clear hM hA M A
      refine tr_cond rfl (fun hc => ?_) (fun hc => ?_)
      · replace H := if_t H hc
        refine tr_keep [0, 6, 37, 38, 39] (σ' := mkSl 108 0 [(0, .val (.list (.int .i64)) .n t0_1), (6, .val (.list (.int .i64)) (.l .n) t6_4), (37, .val (.list (.int .i64)) .n t0_1), (38, .val (.int .i64) .n t38_3), (39, .val (.int .i64) .n t39_5)]) rfl ?_
        refine tr_skip ?_
        refine tr_seq ?_
        refine tr_block ?_
        refine tr_seq ?_
        refine tr_rg hP tabOk hsp fun A hA M hM => ?_
        cbv
        obtain ⟨ob1, H⟩ := ck_out H
        refine ⟨by subst hA; exact ob1, hM _ ?_⟩
        refine tr_seq ?_
        refine tr_seq ?_
        refine tr_keepL [0, 6, 8, 37, 38, 39] (fun t8_8 : Int => mkSl 108 0 [(0, .val (.list (.int .i64)) .n t0_1), (6, .val (.list (.int .i64)) (.l .n) t6_4), (8, .val (.int .i64) .n t8_8), (37, .val (.list (.int .i64)) .n t0_1), (38, .val (.int .i64) .n t38_3), (39, .val (.int .i64) .n t39_5)]) H (by subst hA; rfl) (fun t8_8 H => ?_)
        clear ob1 hM hA M A
        refine tr_rg hP tabOk hsp fun A hA M hM => ?_
        cbv
        refine hM _ ?_
        refine tr_keep [0, 6, 8, 37, 38, 39, 48] (σ' := mkSl 108 0 [(0, .val (.list (.int .i64)) .n t0_1), (6, .val (.list (.int .i64)) (.l .n) t6_4), (8, .val (.int .i64) .n t8_8), (37, .val (.list (.int .i64)) .n t0_1), (38, .val (.int .i64) .n t38_3), (39, .val (.int .i64) .n t39_5), (48, .val (.bool) .n ((decide (t8_8 < (0 : Int))) || (decide (t8_8 > (1000000 : Int)))))]) (by subst hA; rfl) ?_
        clear hM hA M A
        refine tr_cond rfl (fun hc => ?_) (fun hc => ?_)
        · replace H := if_t H hc
          refine tr_keep [0, 6, 8, 37, 38, 39] (σ' := mkSl 108 0 [(0, .val (.list (.int .i64)) .n t0_1), (6, .val (.list (.int .i64)) (.l .n) t6_4), (8, .val (.int .i64) .n t8_8), (37, .val (.list (.int .i64)) .n t0_1), (38, .val (.int .i64) .n t38_3), (39, .val (.int .i64) .n t39_5)]) rfl ?_
          refine tr_seq ?_
          refine tr_rg hP tabOk hsp fun A hA M hM => ?_
          cbv
          refine hM _ ?_
          refine tr_ret ?_
          have hr := Option.some.inj H
          refine Exists.intro _ (And.intro hr.symm (fun hr => ?_))
          subst hr
          subst hA
          exact rfl
        · replace H := if_f H hc
          refine tr_keep [0, 6, 8, 37, 38, 39] (σ' := mkSl 108 0 [(0, .val (.list (.int .i64)) .n t0_1), (6, .val (.list (.int .i64)) (.l .n) t6_4), (8, .val (.int .i64) .n t8_8), (37, .val (.list (.int .i64)) .n t0_1), (38, .val (.int .i64) .n t38_3), (39, .val (.int .i64) .n t39_5)]) rfl ?_
          refine tr_skip ?_
          refine tr_rg hP tabOk hsp fun A hA M hM => ?_
          cbv
          obtain ⟨ob1, H⟩ := ck_out H
          refine ⟨by subst hA; exact ob1, hM _ ?_⟩
          refine tr_keepL [0, 6, 37, 38, 39] (fun t6_9 : List Int => mkSl 108 0 [(0, .val (.list (.int .i64)) .n t0_1), (6, .val (.list (.int .i64)) (.l .n) t6_9), (37, .val (.list (.int .i64)) .n t0_1), (38, .val (.int .i64) .n t38_3), (39, .val (.int .i64) .n t39_5)]) H (by subst hA; rfl) (fun t6_9 H => ?_)
          clear ob1 hM hA M A
          refine tr_rg hP tabOk hsp fun A hA M hM => ?_
          cbv
          refine hM _ ?_
          exact Exists.intro _ (And.intro (Option.some.inj H).symm (by subst hA; rfl))
      · replace H := if_f H hc
        refine tr_keep [0, 6, 37, 38, 39] (σ' := mkSl 108 0 [(0, .val (.list (.int .i64)) .n t0_1), (6, .val (.list (.int .i64)) (.l .n) t6_4), (37, .val (.list (.int .i64)) .n t0_1), (38, .val (.int .i64) .n t38_3), (39, .val (.int .i64) .n t39_5)]) rfl ?_
        refine tr_exit ?_
        exact And.intro rfl (Exists.intro _ (And.intro (Option.some.inj H).symm (by rfl)))
theorem RingOrder_sp : ∃ (pg : PT.denL [.list (.int .i64)] → Prop) (fg : PT.denL [.list (.int .i64)] → PT.denL [.bool]), SpecRuns Try.prog 5 ⟨[.list (.int .i64)], [.v], [.bool], [.n], pg, fg⟩ ∧ (∀ {a1 : List Int} {y : Bool}, RingOrder a1 = some y → pg (a1, ()) ∧ y = (fg (a1, ())).1) ∧ (∀ {a1 : List Int}, (RingOrder a1).isSome = true → pg (a1, ())) ∧ ∀ {a1 : List Int}, (RingOrder a1).getD false = (fg (a1, ())).1 := by
  obtain ⟨pg, fg, h, hc, hi, hd⟩ := spec_hide RingOrder_runs
  refine ⟨pg, fg, h, ?_, ?_, ?_⟩
  · intro a1 y e
    obtain ⟨h1, h2⟩ := hc (a1, ()) (y, ()) (congrArg (Option.map fun r => (r, ())) e)
    exact ⟨h1, by first | (rw [h2]; done) | (rw [h2]; rfl)⟩
  · intro a1
    intro e
    exact hi (a1, ()) (map_isSome e)
  · intro a1
    rw [hd (a1, ())]
    cases RingOrder a1 <;> rfl
end Go.Proofs.Ytiddimfepemohaa.Rg
