/- Functions of the program as functions that may fail, and that the code computes them (printed). Each theorem bears its conditions itself. -/
import Derived.Test.YtiddimfepemohaaRgDefs
import Derived.Test.YtiddimfepemohaaRgTab
import Derived.Test.YtiddimfepemohaaRgQringQCheck
import Derived.Test.YtiddimfepemohaaRgQringQprobe
open Go Go.Proofs.Ytiddimfepemohaa.Sy Go.Proofs
set_option maxHeartbeats 4000000
set_option maxRecDepth 100000
set_option cbv.maxSteps 10000000
set_option linter.unusedVariables false
set_option linter.unusedSimpArgs false
namespace Go.Proofs.Ytiddimfepemohaa.Rg
theorem ring_Halves_runs : SpecRuns Try.prog 10 (oSpec [.list (.int .i64)] [.v] [.int .i64, .int .i64, .int .i64] [.n, .n, .n] fun x => (ring_Halves x.1).map fun r => (r.1, r.2.1, r.2.2, ())) := by
  obtain ⟨pg13, fg13, hs13, hc13, hi13, hd13⟩ := ring_Check_sp
  obtain ⟨pg14, fg14, hs14, hc14, hi14, hd14⟩ := ring_probe_sp
  have hsp : SpecsOk Try.prog [(13, ⟨[.list (.int .i64)], [.v], [.int .i64], [.n], pg13, fg13⟩), (14, ⟨[.list (.int .i64), .int .i64, .int .i64, .int .i64], [.v, .v, .v, .v], [.int .i64, .bool], [.n, .n], pg14, fg14⟩)] := (specsOk_cons Try.func13 (by kernel_rfl) (by kernel_rfl) hs13 (specsOk_cons Try.func14 (by kernel_rfl) (by kernel_rfl) hs14 specsOk_nil))
  refine runs_of_o tabOk Try.func10 rfl (Nat.le_of_ble_eq_true rfl) rfl ?_
  rintro E ⟨(t0_1 : List Int), ⟨⟩⟩ y hP H hw
  obtain ⟨z, H1, rfl⟩ := map_out H
  replace H : ring_Halves t0_1 = some z := H1
  clear hw H1
  unfold ring_Halves at H
  refine tr_keep [0] (σ' := mkSl 79 0 [(0, .val (.list (.int .i64)) .n t0_1)]) rfl ?_
  refine tr_seq ?_
  refine tr_rg hP tabOk hsp fun A hA M hM => ?_
  cbv
  refine hM _ ?_
  refine tr_seq ?_
  refine tr_seq ?_
  refine tr_keep [0] (σ' := mkSl 79 0 [(0, .val (.list (.int .i64)) .n t0_1)]) (by subst hA; rfl) ?_
  clear hM hA M A
  refine tr_rg hP tabOk hsp fun A hA M hM => ?_
  cbv
  obtain ⟨r_2, hr1, H⟩ := bind_out H
  obtain ⟨pq1, eq1⟩ := hc13 hr1
  refine ⟨by subst hA; subst eq1; exact pq1, hM _ ?_⟩
  refine tr_seq ?_
  refine tr_keep [0, 5] (σ' := mkSl 79 0 [(0, .val (.list (.int .i64)) .n t0_1), (5, .val (.int .i64) .n r_2)]) (by subst hA; subst eq1; rfl) ?_
  clear pq1 eq1 hr1 hM hA M A
  refine tr_rg hP tabOk hsp fun A hA M hM => ?_
  cbv
  refine hM _ ?_
  refine tr_keep [0, 5, 21] (σ' := mkSl 79 0 [(0, .val (.list (.int .i64)) .n t0_1), (5, .val (.int .i64) .n r_2), (21, .val (.bool) .n (r_2 != (0 : Int)))]) (by subst hA; rfl) ?_
  clear hM hA M A
  refine tr_cond rfl (fun hc => ?_) (fun hc => ?_)
  · replace H := if_t H hc
    refine tr_keep [0, 5] (σ' := mkSl 79 0 [(0, .val (.list (.int .i64)) .n t0_1), (5, .val (.int .i64) .n r_2)]) rfl ?_
    refine tr_seq ?_
    refine tr_rg hP tabOk hsp fun A hA M hM => ?_
    cbv
    refine hM _ ?_
    refine tr_ret ?_
    have hr := Option.some.inj H
    subst hr
    subst hA
    exact rfl
  · replace H := if_f H hc
    refine tr_keep [0, 5] (σ' := mkSl 79 0 [(0, .val (.list (.int .i64)) .n t0_1), (5, .val (.int .i64) .n r_2)]) rfl ?_
    refine tr_skip ?_
    refine tr_seq ?_
    refine tr_rg hP tabOk hsp fun A hA M hM => ?_
    cbv
    refine hM _ ?_
    refine tr_seq ?_
    refine tr_keepL [0, 6] (fun t6_3 : Int => mkSl 79 0 [(0, .val (.list (.int .i64)) .n t0_1), (6, .val (.int .i64) .n t6_3)]) H (by subst hA; rfl) (fun t6_3 H => ?_)
    clear hM hA M A
    refine tr_rg hP tabOk hsp fun A hA M hM => ?_
    cbv
    refine hM _ ?_
    refine tr_seq ?_
    refine tr_keep [0, 6, 7] (σ' := mkSl 79 0 [(0, .val (.list (.int .i64)) .n t0_1), (6, .val (.int .i64) .n t6_3), (7, .val (.int .i64) .n (0 : Int))]) (by subst hA; rfl) ?_
    clear hM hA M A
    refine tr_rg hP tabOk hsp fun A hA M hM => ?_
    cbv
    refine hM _ ?_
    refine tr_seq ?_
    refine tr_seq ?_
    refine tr_keep [0, 6, 7, 8] (σ' := mkSl 79 0 [(0, .val (.list (.int .i64)) .n t0_1), (6, .val (.int .i64) .n t6_3), (7, .val (.int .i64) .n (0 : Int)), (8, .val (.list (.int .i64)) (.l .n) ([] : List Int))]) (by subst hA; rfl) ?_
    clear hM hA M A
    refine tr_rg hP tabOk hsp fun A hA M hM => ?_
    cbv
    refine hM _ ?_
    refine tr_block ?_
    refine tr_keepL [0, 6, 7, 8, 26, 27] (fun t26_4 : Int => mkSl 79 0 [(0, .val (.list (.int .i64)) .n t0_1), (6, .val (.int .i64) .n t6_3), (7, .val (.int .i64) .n (0 : Int)), (8, .val (.list (.int .i64)) (.l .n) ([] : List Int)), (26, .val (.int .i64) .n t26_4), (27, .val (.int .i64) .n (0 : Int))]) H (by subst hA; rfl) (fun t26_4 H => ?_)
    clear hM hA M A
    obtain ⟨q_8, hq, H⟩ := bind_out H
    refine tr_loopB 0 (fun x : List Int × Int => ring_Halves_L1 t26_4 x.1 x.2) (fun x : List Int × Int => mkSl 79 0 [(0, .val (.list (.int .i64)) .n t0_1), (6, .val (.int .i64) .n t6_3), (7, .val (.int .i64) .n (0 : Int)), (8, .val (.list (.int .i64)) (.l .n) x.1), (26, .val (.int .i64) .n t26_4), (27, .val (.int .i64) .n x.2)]) [0, 6, 7, 8, 26, 27] (fun q_8 : List Int => mkSl 79 0 [(0, .val (.list (.int .i64)) .n t0_1), (6, .val (.int .i64) .n t6_3), (7, .val (.int .i64) .n (0 : Int)), (8, .val (.list (.int .i64)) (.l .n) q_8)]) [0, 6, 7, 8] hq rfl (fun σ' h => ?_) (fun x r1 H => ?_)
    · refine tr_keep [0, 6, 7, 8] h ?_
      refine tr_seq ?_
      refine tr_rg hP tabOk hsp fun A hA M hM => ?_
      cbv
      refine hM _ ?_
      refine tr_block ?_
      refine tr_keep [0, 6, 7, 8, 10] (σ' := mkSl 79 0 [(0, .val (.list (.int .i64)) .n t0_1), (6, .val (.int .i64) .n t6_3), (7, .val (.int .i64) .n (0 : Int)), (8, .val (.list (.int .i64)) (.l .n) q_8), (10, .val (.int .i64) .n (1 : Int))]) (by subst hA; rfl) ?_
      clear hM hA M A
      refine tr_loopR (fun x : Int × List Int × Int => ring_Halves_L2 t0_1 t6_3 x.1 x.2.1 x.2.2) (fun x : Int × List Int × Int => mkSl 79 0 [(0, .val (.list (.int .i64)) .n t0_1), (6, .val (.int .i64) .n t6_3), (7, .val (.int .i64) .n x.1), (8, .val (.list (.int .i64)) (.l .n) x.2.1), (10, .val (.int .i64) .n x.2.2)]) [0, 6, 7, 8, 10] H rfl (fun x r2 H => ?_)
      obtain ⟨t7_10, t8_11, t10_12⟩ := x
      replace H : ring_Halves_L2 t0_1 t6_3 t7_10 t8_11 t10_12 = some r2 := H
      unfold ring_Halves_L2 at H
      refine tr_seq ?_
      refine tr_block ?_
      refine tr_seq ?_
      refine tr_rg hP tabOk hsp fun A hA M hM => ?_
      cbv
      refine hM _ ?_
      refine tr_seq ?_
      refine tr_seq ?_
      refine tr_keep [0, 6, 7, 8, 10, 11] (σ' := mkSl 79 0 [(0, .val (.list (.int .i64)) .n t0_1), (6, .val (.int .i64) .n t6_3), (7, .val (.int .i64) .n t7_10), (8, .val (.list (.int .i64)) (.l .n) t8_11), (10, .val (.int .i64) .n t10_12), (11, .val (.list (.int .i64)) (.l .n) ([] : List Int))]) (by subst hA; rfl) ?_
      clear hM hA M A
      refine tr_rg hP tabOk hsp fun A hA M hM => ?_
      cbv
      refine hM _ ?_
      refine tr_block ?_
      refine tr_keepL [0, 6, 7, 8, 10, 11, 37, 38, 39] (fun t38_13 : Int => mkSl 79 0 [(0, .val (.list (.int .i64)) .n t0_1), (6, .val (.int .i64) .n t6_3), (7, .val (.int .i64) .n t7_10), (8, .val (.list (.int .i64)) (.l .n) t8_11), (10, .val (.int .i64) .n t10_12), (11, .val (.list (.int .i64)) (.l .n) ([] : List Int)), (37, .bor 8 []), (38, .val (.int .i64) .n t38_13), (39, .val (.int .i64) .n (0 : Int))]) H (by subst hA; rfl) (fun t38_13 H => ?_)
      clear hM hA M A
      obtain ⟨q, hq, Hl, Hr⟩ := bindE_out H
      refine tr_loopE 4 (fun x : Int × List Int × Int => ring_Halves_L3 t0_1 t6_3 t8_11 t10_12 t38_13 x.1 x.2.1 x.2.2) (fun x : Int × List Int × Int => mkSl 79 0 [(0, .val (.list (.int .i64)) .n t0_1), (6, .val (.int .i64) .n t6_3), (7, .val (.int .i64) .n x.1), (8, .val (.list (.int .i64)) (.l .n) t8_11), (10, .val (.int .i64) .n t10_12), (11, .val (.list (.int .i64)) (.l .n) x.2.1), (37, .bor 8 []), (38, .val (.int .i64) .n t38_13), (39, .val (.int .i64) .n x.2.2)]) [0, 6, 7, 8, 10, 11, 37, 38, 39] (fun q_19 : Int × List Int => mkSl 79 0 [(0, .val (.list (.int .i64)) .n t0_1), (6, .val (.int .i64) .n t6_3), (7, .val (.int .i64) .n q_19.1), (8, .val (.list (.int .i64)) (.l .n) t8_11), (10, .val (.int .i64) .n t10_12), (11, .val (.list (.int .i64)) (.l .n) q_19.2)]) [0, 6, 7, 8, 10, 11] hq rfl Hr (fun q_19 hl σ' h => ?_) (fun x r3 H => ?_)
      · replace H := Hl q_19 hl
        refine tr_keep [0, 6, 7, 8, 10, 11] h ?_
        refine tr_rg hP tabOk hsp fun A hA M hM => ?_
        cbv
        refine hM _ ?_
        refine tr_keep [0, 6, 7, 8, 10] (σ' := mkSl 79 0 [(0, .val (.list (.int .i64)) .n t0_1), (6, .val (.int .i64) .n t6_3), (7, .val (.int .i64) .n q_19.1), (8, .val (.list (.int .i64)) (.l .n) q_19.2), (10, .val (.int .i64) .n t10_12)]) (by subst hA; rfl) ?_
        clear hM hA M A
        refine tr_rg hP tabOk hsp fun A hA M hM => ?_
        cbv
        refine hM _ ?_
        exact Exists.intro _ (And.intro (Option.some.inj H).symm (by subst hA; rfl))
      · obtain ⟨t7_14, t11_15, t39_16⟩ := x
        replace H : ring_Halves_L3 t0_1 t6_3 t8_11 t10_12 t38_13 t7_14 t11_15 t39_16 = some r3 := H
        unfold ring_Halves_L3 at H
        refine tr_seq ?_
        refine tr_rg hP tabOk hsp fun A hA M hM => ?_
        cbv
        refine hM _ ?_
        refine tr_seq ?_
        refine tr_keep [0, 6, 7, 8, 10, 11, 37, 38, 39, 40] (σ' := mkSl 79 0 [(0, .val (.list (.int .i64)) .n t0_1), (6, .val (.int .i64) .n t6_3), (7, .val (.int .i64) .n t7_14), (8, .val (.list (.int .i64)) (.l .n) t8_11), (10, .val (.int .i64) .n t10_12), (11, .val (.list (.int .i64)) (.l .n) t11_15), (37, .bor 8 []), (38, .val (.int .i64) .n t38_13), (39, .val (.int .i64) .n t39_16), (40, .val (.bool) .n (decide (t39_16 < t38_13)))]) (by subst hA; rfl) ?_
        clear hM hA M A
        refine tr_cond rfl (fun hc => ?_) (fun hc => ?_)
        · replace H := if_t H hc
          refine tr_keep [0, 6, 7, 8, 10, 11, 37, 38, 39] (σ' := mkSl 79 0 [(0, .val (.list (.int .i64)) .n t0_1), (6, .val (.int .i64) .n t6_3), (7, .val (.int .i64) .n t7_14), (8, .val (.list (.int .i64)) (.l .n) t8_11), (10, .val (.int .i64) .n t10_12), (11, .val (.list (.int .i64)) (.l .n) t11_15), (37, .bor 8 []), (38, .val (.int .i64) .n t38_13), (39, .val (.int .i64) .n t39_16)]) rfl ?_
          refine tr_skip ?_
          refine tr_seq ?_
          refine tr_block ?_
          refine tr_seq ?_
          refine tr_rg hP tabOk hsp fun A hA M hM => ?_
          cbv
          obtain ⟨ob1, H⟩ := ck_out H
          refine ⟨by subst hA; exact ob1, hM _ ?_⟩
          refine tr_seq ?_
          refine tr_keepL [0, 6, 7, 8, 10, 11, 13, 37, 38, 39] (fun t13_20 : Int => mkSl 79 0 [(0, .val (.list (.int .i64)) .n t0_1), (6, .val (.int .i64) .n t6_3), (7, .val (.int .i64) .n t7_14), (8, .val (.list (.int .i64)) (.l .n) t8_11), (10, .val (.int .i64) .n t10_12), (11, .val (.list (.int .i64)) (.l .n) t11_15), (13, .val (.int .i64) .n t13_20), (37, .bor 8 []), (38, .val (.int .i64) .n t38_13), (39, .val (.int .i64) .n t39_16)]) H (by subst hA; rfl) (fun t13_20 H => ?_)
          clear ob1 hM hA M A
          refine tr_rg hP tabOk hsp fun A hA M hM => ?_
          cbv
          obtain ⟨r_21, hr1, H⟩ := bind_out H
          obtain ⟨pq1, eq1⟩ := hc14 hr1
          refine ⟨by subst hA; subst eq1; exact pq1, hM _ ?_⟩
          refine tr_seq ?_
          refine tr_keep [0, 6, 7, 8, 10, 11, 13, 14, 15, 37, 38, 39] (σ' := mkSl 79 0 [(0, .val (.list (.int .i64)) .n t0_1), (6, .val (.int .i64) .n t6_3), (7, .val (.int .i64) .n t7_14), (8, .val (.list (.int .i64)) (.l .n) t8_11), (10, .val (.int .i64) .n t10_12), (11, .val (.list (.int .i64)) (.l .n) t11_15), (13, .val (.int .i64) .n t13_20), (14, .val (.int .i64) .n r_21.1), (15, .val (.bool) .n r_21.2), (37, .bor 8 []), (38, .val (.int .i64) .n t38_13), (39, .val (.int .i64) .n t39_16)]) (by subst hA; subst eq1; rfl) ?_
          clear pq1 eq1 hr1 hM hA M A
          refine tr_rg hP tabOk hsp fun A hA M hM => ?_
          cbv
          obtain ⟨r_22, hr1, H⟩ := bind_out H
          obtain ⟨pq1, eq1⟩ := hc14 hr1
          refine ⟨by subst hA; subst eq1; exact pq1, hM _ ?_⟩
          refine tr_seq ?_
          refine tr_keep [0, 6, 7, 8, 10, 11, 13, 14, 15, 16, 17, 37, 38, 39] (σ' := mkSl 79 0 [(0, .val (.list (.int .i64)) .n t0_1), (6, .val (.int .i64) .n t6_3), (7, .val (.int .i64) .n t7_14), (8, .val (.list (.int .i64)) (.l .n) t8_11), (10, .val (.int .i64) .n t10_12), (11, .val (.list (.int .i64)) (.l .n) t11_15), (13, .val (.int .i64) .n t13_20), (14, .val (.int .i64) .n r_21.1), (15, .val (.bool) .n r_21.2), (16, .val (.int .i64) .n r_22.1), (17, .val (.bool) .n r_22.2), (37, .bor 8 []), (38, .val (.int .i64) .n t38_13), (39, .val (.int .i64) .n t39_16)]) (by subst hA; subst eq1; rfl) ?_
          clear pq1 eq1 hr1 hM hA M A
          refine tr_rg hP tabOk hsp fun A hA M hM => ?_
          cbv
          refine hM _ ?_
          refine tr_seq ?_
          refine tr_keepL [0, 6, 7, 8, 10, 11, 13, 15, 17, 37, 38, 39] (fun t7_23 : Int => mkSl 79 0 [(0, .val (.list (.int .i64)) .n t0_1), (6, .val (.int .i64) .n t6_3), (7, .val (.int .i64) .n t7_23), (8, .val (.list (.int .i64)) (.l .n) t8_11), (10, .val (.int .i64) .n t10_12), (11, .val (.list (.int .i64)) (.l .n) t11_15), (13, .val (.int .i64) .n t13_20), (15, .val (.bool) .n r_21.2), (17, .val (.bool) .n r_22.2), (37, .bor 8 []), (38, .val (.int .i64) .n t38_13), (39, .val (.int .i64) .n t39_16)]) H (by subst hA; rfl) (fun t7_23 H => ?_)
          clear hM hA M A
          refine tr_rg hP tabOk hsp fun A hA M hM => ?_
          cbv
          refine hM _ ?_
          refine tr_keep [0, 6, 7, 8, 10, 11, 13, 37, 38, 39, 67] (σ' := mkSl 79 0 [(0, .val (.list (.int .i64)) .n t0_1), (6, .val (.int .i64) .n t6_3), (7, .val (.int .i64) .n t7_23), (8, .val (.list (.int .i64)) (.l .n) t8_11), (10, .val (.int .i64) .n t10_12), (11, .val (.list (.int .i64)) (.l .n) t11_15), (13, .val (.int .i64) .n t13_20), (37, .bor 8 []), (38, .val (.int .i64) .n t38_13), (39, .val (.int .i64) .n t39_16), (67, .val (.bool) .n (r_21.2 && r_22.2))]) (by subst hA; rfl) ?_
          clear hM hA M A
          refine tr_join (z := r3) (fun y : List Int => ring_Halves_J4 t39_16 t7_23 y) (fun y : List Int => mkSl 79 0 [(0, .val (.list (.int .i64)) .n t0_1), (6, .val (.int .i64) .n t6_3), (7, .val (.int .i64) .n t7_23), (8, .val (.list (.int .i64)) (.l .n) t8_11), (10, .val (.int .i64) .n t10_12), (11, .val (.list (.int .i64)) (.l .n) y), (37, .bor 8 []), (38, .val (.int .i64) .n t38_13), (39, .val (.int .i64) .n t39_16)]) [0, 6, 7, 8, 10, 11, 37, 38, 39] (fun _ h => h) (fun y H => ?_) (fun hJ4 => ?_)
          · obtain ⟨t11_24, rfl⟩ : ∃ v, v = y := ⟨y, rfl⟩
            replace H : ring_Halves_J4 t39_16 t7_23 t11_24 = some r3 := H
            unfold ring_Halves_J4 at H
            refine tr_rg hP tabOk hsp fun A hA M hM => ?_
            cbv
            refine hM _ ?_
            exact Exists.intro _ (And.intro (Option.some.inj H).symm (by subst hA; rfl))
          · refine tr_cond rfl (fun hc => ?_) (fun hc => ?_)
            · replace H := if_t H hc
              refine tr_keep [0, 6, 7, 8, 10, 11, 13, 37, 38, 39] (σ' := mkSl 79 0 [(0, .val (.list (.int .i64)) .n t0_1), (6, .val (.int .i64) .n t6_3), (7, .val (.int .i64) .n t7_23), (8, .val (.list (.int .i64)) (.l .n) t8_11), (10, .val (.int .i64) .n t10_12), (11, .val (.list (.int .i64)) (.l .n) t11_15), (13, .val (.int .i64) .n t13_20), (37, .bor 8 []), (38, .val (.int .i64) .n t38_13), (39, .val (.int .i64) .n t39_16)]) rfl ?_
              refine tr_seq ?_
              refine tr_seq ?_
              refine tr_rg hP tabOk hsp fun A hA M hM => ?_
              cbv
              refine hM _ ?_
              refine tr_keep [0, 6, 7, 8, 10, 11, 13, 37, 38, 39, 70] (σ' := mkSl 79 0 [(0, .val (.list (.int .i64)) .n t0_1), (6, .val (.int .i64) .n t6_3), (7, .val (.int .i64) .n t7_23), (8, .val (.list (.int .i64)) (.l .n) t8_11), (10, .val (.int .i64) .n t10_12), (11, .val (.list (.int .i64)) (.l .n) t11_15), (13, .val (.int .i64) .n t13_20), (37, .bor 8 []), (38, .val (.int .i64) .n t38_13), (39, .val (.int .i64) .n t39_16), (70, .val (.bool) .n (decide (t10_12 ≥ t6_3)))]) (by subst hA; rfl) ?_
              clear hM hA M A
              refine tr_cond rfl (fun hc => ?_) (fun hc => ?_)
              · replace H := if_t H hc
                refine tr_keep [0, 6, 7, 8, 10, 11, 13, 37, 38, 39] (σ' := mkSl 79 0 [(0, .val (.list (.int .i64)) .n t0_1), (6, .val (.int .i64) .n t6_3), (7, .val (.int .i64) .n t7_23), (8, .val (.list (.int .i64)) (.l .n) t8_11), (10, .val (.int .i64) .n t10_12), (11, .val (.list (.int .i64)) (.l .n) t11_15), (13, .val (.int .i64) .n t13_20), (37, .bor 8 []), (38, .val (.int .i64) .n t38_13), (39, .val (.int .i64) .n t39_16)]) rfl ?_
                refine tr_seq ?_
                refine tr_rg hP tabOk hsp fun A hA M hM => ?_
                cbv
                refine hM _ ?_
                refine tr_ret ?_
                have hr := Option.some.inj H
                refine Exists.intro _ (And.intro hr.symm (fun hr => ?_))
                refine Exists.intro _ (And.intro hr.symm (fun hr => ?_))
                subst hr
                subst hA
                exact rfl
              · replace H := if_f H hc
                refine tr_keep [0, 6, 7, 8, 10, 11, 13, 37, 38, 39] (σ' := mkSl 79 0 [(0, .val (.list (.int .i64)) .n t0_1), (6, .val (.int .i64) .n t6_3), (7, .val (.int .i64) .n t7_23), (8, .val (.list (.int .i64)) (.l .n) t8_11), (10, .val (.int .i64) .n t10_12), (11, .val (.list (.int .i64)) (.l .n) t11_15), (13, .val (.int .i64) .n t13_20), (37, .bor 8 []), (38, .val (.int .i64) .n t38_13), (39, .val (.int .i64) .n t39_16)]) rfl ?_
                refine tr_skip ?_
                refine tr_rg hP tabOk hsp fun A hA M hM => ?_
                cbv
                obtain ⟨ob1, H⟩ := ck_out H
                refine ⟨by subst hA; exact ob1, hM _ ?_⟩
                exact hJ4 (t11_15 ++ [t13_20]) _ H (by subst hA; rfl)
            · replace H := if_f H hc
              refine tr_keep [0, 6, 7, 8, 10, 11, 13, 37, 38, 39] (σ' := mkSl 79 0 [(0, .val (.list (.int .i64)) .n t0_1), (6, .val (.int .i64) .n t6_3), (7, .val (.int .i64) .n t7_23), (8, .val (.list (.int .i64)) (.l .n) t8_11), (10, .val (.int .i64) .n t10_12), (11, .val (.list (.int .i64)) (.l .n) t11_15), (13, .val (.int .i64) .n t13_20), (37, .bor 8 []), (38, .val (.int .i64) .n t38_13), (39, .val (.int .i64) .n t39_16)]) rfl ?_
              refine tr_skip ?_
              exact hJ4 t11_15 _ H (by rfl)
        · replace H := if_f H hc
          refine tr_keep [0, 6, 7, 8, 10, 11, 37, 38, 39] (σ' := mkSl 79 0 [(0, .val (.list (.int .i64)) .n t0_1), (6, .val (.int .i64) .n t6_3), (7, .val (.int .i64) .n t7_14), (8, .val (.list (.int .i64)) (.l .n) t8_11), (10, .val (.int .i64) .n t10_12), (11, .val (.list (.int .i64)) (.l .n) t11_15), (37, .bor 8 []), (38, .val (.int .i64) .n t38_13), (39, .val (.int .i64) .n t39_16)]) rfl ?_
          refine tr_exit ?_
          exact And.intro rfl (Exists.intro _ (And.intro (Option.some.inj H).symm (by rfl)))
    · obtain ⟨t8_5, t27_6⟩ := x
      replace H : ring_Halves_L1 t26_4 t8_5 t27_6 = some r1 := H
      unfold ring_Halves_L1 at H
      refine tr_seq ?_
      refine tr_rg hP tabOk hsp fun A hA M hM => ?_
      cbv
      refine hM _ ?_
      refine tr_seq ?_
      refine tr_keep [0, 6, 7, 8, 26, 27, 28] (σ' := mkSl 79 0 [(0, .val (.list (.int .i64)) .n t0_1), (6, .val (.int .i64) .n t6_3), (7, .val (.int .i64) .n (0 : Int)), (8, .val (.list (.int .i64)) (.l .n) t8_5), (26, .val (.int .i64) .n t26_4), (27, .val (.int .i64) .n t27_6), (28, .val (.bool) .n (decide (t27_6 < t26_4)))]) (by subst hA; rfl) ?_
      clear hM hA M A
      refine tr_cond rfl (fun hc => ?_) (fun hc => ?_)
      · replace H := if_t H hc
        refine tr_keep [0, 6, 7, 8, 26, 27] (σ' := mkSl 79 0 [(0, .val (.list (.int .i64)) .n t0_1), (6, .val (.int .i64) .n t6_3), (7, .val (.int .i64) .n (0 : Int)), (8, .val (.list (.int .i64)) (.l .n) t8_5), (26, .val (.int .i64) .n t26_4), (27, .val (.int .i64) .n t27_6)]) rfl ?_
        refine tr_skip ?_
        refine tr_seq ?_
        refine tr_block ?_
        refine tr_seq ?_
        refine tr_rg hP tabOk hsp fun A hA M hM => ?_
        cbv
        refine hM _ ?_
        refine tr_keep [0, 6, 7, 8, 9, 26, 27] (σ' := mkSl 79 0 [(0, .val (.list (.int .i64)) .n t0_1), (6, .val (.int .i64) .n t6_3), (7, .val (.int .i64) .n (0 : Int)), (8, .val (.list (.int .i64)) (.l .n) t8_5), (9, .val (.int .i64) .n t27_6), (26, .val (.int .i64) .n t26_4), (27, .val (.int .i64) .n t27_6)]) (by subst hA; rfl) ?_
        clear hM hA M A
        refine tr_rg hP tabOk hsp fun A hA M hM => ?_
        cbv
        obtain ⟨ob1, H⟩ := ck_out H
        refine ⟨by subst hA; exact ob1, hM _ ?_⟩
        refine tr_keepL [0, 6, 7, 8, 26, 27] (fun t8_9 : List Int => mkSl 79 0 [(0, .val (.list (.int .i64)) .n t0_1), (6, .val (.int .i64) .n t6_3), (7, .val (.int .i64) .n (0 : Int)), (8, .val (.list (.int .i64)) (.l .n) t8_9), (26, .val (.int .i64) .n t26_4), (27, .val (.int .i64) .n t27_6)]) H (by subst hA; rfl) (fun t8_9 H => ?_)
        clear ob1 hM hA M A
        refine tr_rg hP tabOk hsp fun A hA M hM => ?_
        cbv
        refine hM _ ?_
        exact Exists.intro _ (And.intro (Option.some.inj H).symm (by subst hA; rfl))
      · replace H := if_f H hc
        refine tr_keep [0, 6, 7, 8, 26, 27] (σ' := mkSl 79 0 [(0, .val (.list (.int .i64)) .n t0_1), (6, .val (.int .i64) .n t6_3), (7, .val (.int .i64) .n (0 : Int)), (8, .val (.list (.int .i64)) (.l .n) t8_5), (26, .val (.int .i64) .n t26_4), (27, .val (.int .i64) .n t27_6)]) rfl ?_
        refine tr_exit ?_
        exact And.intro rfl (Exists.intro _ (And.intro (Option.some.inj H).symm (by rfl)))
theorem ring_Halves_sp : ∃ (pg : PT.denL [.list (.int .i64)] → Prop) (fg : PT.denL [.list (.int .i64)] → PT.denL [.int .i64, .int .i64, .int .i64]), SpecRuns Try.prog 10 ⟨[.list (.int .i64)], [.v], [.int .i64, .int .i64, .int .i64], [.n, .n, .n], pg, fg⟩ ∧ (∀ {a1 : List Int} {y : Int × Int × Int}, ring_Halves a1 = some y → pg (a1, ()) ∧ y = ((fg (a1, ())).1, (fg (a1, ())).2.1, (fg (a1, ())).2.2.1)) ∧ (∀ {a1 : List Int}, (ring_Halves a1).isSome = true → pg (a1, ())) ∧ ∀ {a1 : List Int}, (ring_Halves a1).getD ((0 : Int), (0 : Int), (0 : Int)) = ((fg (a1, ())).1, (fg (a1, ())).2.1, (fg (a1, ())).2.2.1) := by
  obtain ⟨pg, fg, h, hc, hi, hd⟩ := spec_hide ring_Halves_runs
  refine ⟨pg, fg, h, ?_, ?_, ?_⟩
  · intro a1 y e
    obtain ⟨h1, h2⟩ := hc (a1, ()) (y.1, y.2.1, y.2.2, ()) (congrArg (Option.map fun r => (r.1, r.2.1, r.2.2, ())) e)
    exact ⟨h1, by first | (rw [h2]; done) | (rw [h2]; rfl)⟩
  · intro a1
    intro e
    exact hi (a1, ()) (map_isSome e)
  · intro a1
    rw [hd (a1, ())]
    cases ring_Halves a1 <;> rfl
end Go.Proofs.Ytiddimfepemohaa.Rg
