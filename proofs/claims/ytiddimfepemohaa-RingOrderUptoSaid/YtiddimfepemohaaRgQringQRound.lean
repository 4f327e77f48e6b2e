/- Functions of the program as functions that may fail, and that the code computes them (printed). Each theorem bears its conditions itself. -/
import Derived.Test.YtiddimfepemohaaRgDefs
import Derived.Test.YtiddimfepemohaaRgTab
import Derived.Test.YtiddimfepemohaaRgQringQCheck
open Go Go.Proofs.Ytiddimfepemohaa.Sy Go.Proofs
set_option maxHeartbeats 4000000
set_option maxRecDepth 100000
set_option cbv.maxSteps 10000000
set_option linter.unusedVariables false
set_option linter.unusedSimpArgs false
namespace Go.Proofs.Ytiddimfepemohaa.Rg
theorem ring_Round_runs : SpecRuns Try.prog 8 (oSpec [.list (.int .i64)] [.v] [.int .i64, .int .i64, .int .i64] [.n, .n, .n] fun x => (ring_Round x.1).map fun r => (r.1, r.2.1, r.2.2, ())) := by
  obtain ⟨pg13, fg13, hs13, hc13, hi13, hd13⟩ := ring_Check_sp
  have hsp : SpecsOk Try.prog [(13, ⟨[.list (.int .i64)], [.v], [.int .i64], [.n], pg13, fg13⟩)] := (specsOk_cons Try.func13 (by kernel_rfl) (by kernel_rfl) hs13 specsOk_nil)
  refine runs_of_o tabOk Try.func8 rfl (Nat.le_of_ble_eq_true rfl) rfl ?_
  rintro E ⟨(l_1 : List Int), ⟨⟩⟩ y hP H hw
  obtain ⟨z, H1, rfl⟩ := map_out H
  replace H : ring_Round l_1 = some z := H1
  clear hw H1
  unfold ring_Round at H
  refine tr_keep [0] (σ' := mkSl 49 0 [(0, .val (.list (.int .i64)) .n l_1)]) rfl ?_
  refine tr_seq ?_
  refine tr_rg hP tabOk hsp fun A hA M hM => ?_
  cbv
  refine hM _ ?_
  refine tr_seq ?_
  refine tr_seq ?_
  refine tr_keep [0] (σ' := mkSl 49 0 [(0, .val (.list (.int .i64)) .n l_1)]) (by subst hA; rfl) ?_
  clear hM hA M A
  refine tr_rg hP tabOk hsp fun A hA M hM => ?_
  cbv
  obtain ⟨r_2, hr1, H⟩ := bind_out H
  obtain ⟨pq1, eq1⟩ := hc13 hr1
  refine ⟨by subst hA; subst eq1; exact pq1, hM _ ?_⟩
  refine tr_seq ?_
  refine tr_keep [0, 5] (σ' := mkSl 49 0 [(0, .val (.list (.int .i64)) .n l_1), (5, .val (.int .i64) .n r_2)]) (by subst hA; subst eq1; rfl) ?_
  clear pq1 eq1 hr1 hM hA M A
  refine tr_rg hP tabOk hsp fun A hA M hM => ?_
  cbv
  refine hM _ ?_
  refine tr_keep [0, 5, 16] (σ' := mkSl 49 0 [(0, .val (.list (.int .i64)) .n l_1), (5, .val (.int .i64) .n r_2), (16, .val (.bool) .n (r_2 != (0 : Int)))]) (by subst hA; rfl) ?_
  clear hM hA M A
  refine tr_cond rfl (fun hc => ?_) (fun hc => ?_)
  · replace H := if_t H hc
    refine tr_keep [0, 5] (σ' := mkSl 49 0 [(0, .val (.list (.int .i64)) .n l_1), (5, .val (.int .i64) .n r_2)]) rfl ?_
    refine tr_seq ?_
    refine tr_rg hP tabOk hsp fun A hA M hM => ?_
    cbv
    refine hM _ ?_
    refine tr_ret ?_
    have hr := Option.some.inj H
    subst hr
    subst hA
    exact rfl
  · replace H := if_f H hc
    refine tr_keep [0, 5] (σ' := mkSl 49 0 [(0, .val (.list (.int .i64)) .n l_1), (5, .val (.int .i64) .n r_2)]) rfl ?_
    refine tr_skip ?_
    refine tr_seq ?_
    refine tr_rg hP tabOk hsp fun A hA M hM => ?_
    cbv
    refine hM _ ?_
    refine tr_seq ?_
    refine tr_keepL [0, 6] (fun n_3 : Int => mkSl 49 0 [(0, .val (.list (.int .i64)) .n l_1), (6, .val (.int .i64) .n n_3)]) H (by subst hA; rfl) (fun n_3 H => ?_)
    clear hM hA M A
    refine tr_rg hP tabOk hsp fun A hA M hM => ?_
    cbv
    refine hM _ ?_
    refine tr_seq ?_
    refine tr_keep [0, 6, 7] (σ' := mkSl 49 0 [(0, .val (.list (.int .i64)) .n l_1), (6, .val (.int .i64) .n n_3), (7, .val (.int .i64) .n (0 : Int))]) (by subst hA; rfl) ?_
    clear hM hA M A
    refine tr_rg hP tabOk hsp fun A hA M hM => ?_
    cbv
    refine hM _ ?_
    refine tr_seq ?_
    refine tr_seq ?_
    refine tr_keep [0, 6, 7, 8] (σ' := mkSl 49 0 [(0, .val (.list (.int .i64)) .n l_1), (6, .val (.int .i64) .n n_3), (7, .val (.int .i64) .n (0 : Int)), (8, .val (.int .i64) .n (0 : Int))]) (by subst hA; rfl) ?_
    clear hM hA M A
    refine tr_rg hP tabOk hsp fun A hA M hM => ?_
    cbv
    refine hM _ ?_
    refine tr_block ?_
    refine tr_keepL [0, 6, 7, 8, 20, 21, 22] (fun t21_4 : Int => mkSl 49 0 [(0, .val (.list (.int .i64)) .n l_1), (6, .val (.int .i64) .n n_3), (7, .val (.int .i64) .n (0 : Int)), (8, .val (.int .i64) .n (0 : Int)), (20, .val (.list (.int .i64)) .n l_1), (21, .val (.int .i64) .n t21_4), (22, .val (.int .i64) .n (0 : Int))]) H (by subst hA; rfl) (fun t21_4 H => ?_)
    clear hM hA M A
    obtain ⟨q_10, hq, H⟩ := bind_out H
    refine tr_loopB 0 (fun x : Int × Int × Int => ring_Round_L1 l_1 n_3 t21_4 x.1 x.2.1 x.2.2) (fun x : Int × Int × Int => mkSl 49 0 [(0, .val (.list (.int .i64)) .n l_1), (6, .val (.int .i64) .n n_3), (7, .val (.int .i64) .n x.1), (8, .val (.int .i64) .n x.2.1), (20, .val (.list (.int .i64)) .n l_1), (21, .val (.int .i64) .n t21_4), (22, .val (.int .i64) .n x.2.2)]) [0, 6, 7, 8, 20, 21, 22] (fun q_10 : Int × Int => mkSl 49 0 [(7, .val (.int .i64) .n q_10.1), (8, .val (.int .i64) .n q_10.2)]) [7, 8] hq rfl (fun σ' h => ?_) (fun x r1 H => ?_)
    · refine tr_keep [7, 8] h ?_
      refine tr_seq ?_
      refine tr_rg hP tabOk hsp fun A hA M hM => ?_
      cbv
      refine hM _ ?_
      refine tr_ret ?_
      have hr := Option.some.inj H
      subst hr
      subst hA
      exact rfl
    · obtain ⟨sent_5, lead_7, t22_6⟩ := x
      replace H : ring_Round_L1 l_1 n_3 t21_4 sent_5 lead_7 t22_6 = some r1 := H
      unfold ring_Round_L1 at H
      refine tr_seq ?_
      refine tr_rg hP tabOk hsp fun A hA M hM => ?_
      cbv
      refine hM _ ?_
      refine tr_seq ?_
      refine tr_keep [0, 6, 7, 8, 20, 21, 22, 23] (σ' := mkSl 49 0 [(0, .val (.list (.int .i64)) .n l_1), (6, .val (.int .i64) .n n_3), (7, .val (.int .i64) .n sent_5), (8, .val (.int .i64) .n lead_7), (20, .val (.list (.int .i64)) .n l_1), (21, .val (.int .i64) .n t21_4), (22, .val (.int .i64) .n t22_6), (23, .val (.bool) .n (decide (t22_6 < t21_4)))]) (by subst hA; rfl) ?_
      clear hM hA M A
      refine tr_cond rfl (fun hc => ?_) (fun hc => ?_)
      · replace H := if_t H hc
        refine tr_keep [0, 6, 7, 8, 20, 21, 22] (σ' := mkSl 49 0 [(0, .val (.list (.int .i64)) .n l_1), (6, .val (.int .i64) .n n_3), (7, .val (.int .i64) .n sent_5), (8, .val (.int .i64) .n lead_7), (20, .val (.list (.int .i64)) .n l_1), (21, .val (.int .i64) .n t21_4), (22, .val (.int .i64) .n t22_6)]) rfl ?_
        refine tr_skip ?_
        refine tr_seq ?_
        refine tr_block ?_
        refine tr_seq ?_
        refine tr_rg hP tabOk hsp fun A hA M hM => ?_
        cbv
        obtain ⟨ob1, H⟩ := ck_out H
        refine ⟨by subst hA; exact ob1, hM _ ?_⟩
        refine tr_seq ?_
        refine tr_keepL [0, 6, 7, 8, 9, 10, 20, 21, 22] (fun x_11 : Int => mkSl 49 0 [(0, .val (.list (.int .i64)) .n l_1), (6, .val (.int .i64) .n n_3), (7, .val (.int .i64) .n sent_5), (8, .val (.int .i64) .n lead_7), (9, .val (.int .i64) .n t22_6), (10, .val (.int .i64) .n x_11), (20, .val (.list (.int .i64)) .n l_1), (21, .val (.int .i64) .n t21_4), (22, .val (.int .i64) .n t22_6)]) H (by subst hA; rfl) (fun x_11 H => ?_)
        clear ob1 hM hA M A
        refine tr_rg hP tabOk hsp fun A hA M hM => ?_
        cbv
        refine hM _ ?_
        refine tr_block ?_
        refine tr_keep [0, 6, 7, 8, 9, 10, 11, 20, 21, 22] (σ' := mkSl 49 0 [(0, .val (.list (.int .i64)) .n l_1), (6, .val (.int .i64) .n n_3), (7, .val (.int .i64) .n sent_5), (8, .val (.int .i64) .n lead_7), (9, .val (.int .i64) .n t22_6), (10, .val (.int .i64) .n x_11), (11, .val (.int .i64) .n (1 : Int)), (20, .val (.list (.int .i64)) .n l_1), (21, .val (.int .i64) .n t21_4), (22, .val (.int .i64) .n t22_6)]) (by subst hA; rfl) ?_
        clear hM hA M A
        obtain ⟨q_16, hq, H⟩ := bind_out H
        refine tr_loopB 2 (fun x : Int × Int => ring_Round_L2 l_1 n_3 t22_6 lead_7 x_11 x.1 x.2) (fun x : Int × Int => mkSl 49 0 [(0, .val (.list (.int .i64)) .n l_1), (6, .val (.int .i64) .n n_3), (7, .val (.int .i64) .n x.1), (8, .val (.int .i64) .n lead_7), (9, .val (.int .i64) .n t22_6), (10, .val (.int .i64) .n x_11), (11, .val (.int .i64) .n x.2), (20, .val (.list (.int .i64)) .n l_1), (21, .val (.int .i64) .n t21_4), (22, .val (.int .i64) .n t22_6)]) [0, 6, 7, 8, 9, 10, 11, 20, 21, 22] (fun q_16 : Int × Int => mkSl 49 0 [(0, .val (.list (.int .i64)) .n l_1), (6, .val (.int .i64) .n n_3), (7, .val (.int .i64) .n q_16.1), (8, .val (.int .i64) .n q_16.2), (20, .val (.list (.int .i64)) .n l_1), (21, .val (.int .i64) .n t21_4), (22, .val (.int .i64) .n t22_6)]) [0, 6, 7, 8, 20, 21, 22] hq rfl (fun σ' h => ?_) (fun x r2 H => ?_)
        · refine tr_keep [0, 6, 7, 8, 20, 21, 22] h ?_
          refine tr_rg hP tabOk hsp fun A hA M hM => ?_
          cbv
          refine hM _ ?_
          exact Exists.intro _ (And.intro (Option.some.inj H).symm (by subst hA; rfl))
        · obtain ⟨sent_12, k_13⟩ := x
          replace H : ring_Round_L2 l_1 n_3 t22_6 lead_7 x_11 sent_12 k_13 = some r2 := H
          unfold ring_Round_L2 at H
          refine tr_seq ?_
          refine tr_block ?_
          refine tr_seq ?_
          refine tr_rg hP tabOk hsp fun A hA M hM => ?_
          cbv
          refine hM _ ?_
          refine tr_seq ?_
          refine tr_keepL [0, 6, 7, 8, 9, 10, 11, 20, 21, 22] (fun sent_17 : Int => mkSl 49 0 [(0, .val (.list (.int .i64)) .n l_1), (6, .val (.int .i64) .n n_3), (7, .val (.int .i64) .n sent_17), (8, .val (.int .i64) .n lead_7), (9, .val (.int .i64) .n t22_6), (10, .val (.int .i64) .n x_11), (11, .val (.int .i64) .n k_13), (20, .val (.list (.int .i64)) .n l_1), (21, .val (.int .i64) .n t21_4), (22, .val (.int .i64) .n t22_6)]) H (by subst hA; rfl) (fun sent_17 H => ?_)
          clear hM hA M A
          refine tr_rg hP tabOk hsp fun A hA M hM => ?_
          cbv
          obtain ⟨ob1, H⟩ := ck_out H
          refine ⟨by subst hA; exact ob1, hM _ ?_⟩
          refine tr_seq ?_
          refine tr_seq ?_
          refine tr_keepL [0, 6, 7, 8, 9, 10, 11, 12, 20, 21, 22] (fun at_18 : Int => mkSl 49 0 [(0, .val (.list (.int .i64)) .n l_1), (6, .val (.int .i64) .n n_3), (7, .val (.int .i64) .n sent_17), (8, .val (.int .i64) .n lead_7), (9, .val (.int .i64) .n t22_6), (10, .val (.int .i64) .n x_11), (11, .val (.int .i64) .n k_13), (12, .val (.int .i64) .n at_18), (20, .val (.list (.int .i64)) .n l_1), (21, .val (.int .i64) .n t21_4), (22, .val (.int .i64) .n t22_6)]) H (by subst hA; rfl) (fun at_18 H => ?_)
          clear ob1 hM hA M A
          refine tr_rg hP tabOk hsp fun A hA M hM => ?_
          cbv
          refine hM _ ?_
          refine tr_keep [0, 6, 7, 8, 9, 10, 11, 12, 20, 21, 22, 38] (σ' := mkSl 49 0 [(0, .val (.list (.int .i64)) .n l_1), (6, .val (.int .i64) .n n_3), (7, .val (.int .i64) .n sent_17), (8, .val (.int .i64) .n lead_7), (9, .val (.int .i64) .n t22_6), (10, .val (.int .i64) .n x_11), (11, .val (.int .i64) .n k_13), (12, .val (.int .i64) .n at_18), (20, .val (.list (.int .i64)) .n l_1), (21, .val (.int .i64) .n t21_4), (22, .val (.int .i64) .n t22_6), (38, .val (.bool) .n (at_18 == t22_6))]) (by subst hA; rfl) ?_
          clear hM hA M A
          refine tr_cond rfl (fun hc => ?_) (fun hc => ?_)
          · replace H := if_t H hc
            refine tr_keep [0, 6, 7, 8, 9, 10, 11, 12, 20, 21, 22] (σ' := mkSl 49 0 [(0, .val (.list (.int .i64)) .n l_1), (6, .val (.int .i64) .n n_3), (7, .val (.int .i64) .n sent_17), (8, .val (.int .i64) .n lead_7), (9, .val (.int .i64) .n t22_6), (10, .val (.int .i64) .n x_11), (11, .val (.int .i64) .n k_13), (12, .val (.int .i64) .n at_18), (20, .val (.list (.int .i64)) .n l_1), (21, .val (.int .i64) .n t21_4), (22, .val (.int .i64) .n t22_6)]) rfl ?_
            refine tr_seq ?_
            refine tr_rg hP tabOk hsp fun A hA M hM => ?_
            cbv
            refine hM _ ?_
            refine tr_exit ?_
            exact And.intro rfl (Exists.intro _ (And.intro (Option.some.inj H).symm (by subst hA; rfl)))
          · replace H := if_f H hc
            refine tr_keep [0, 6, 7, 8, 9, 10, 11, 12, 20, 21, 22] (σ' := mkSl 49 0 [(0, .val (.list (.int .i64)) .n l_1), (6, .val (.int .i64) .n n_3), (7, .val (.int .i64) .n sent_17), (8, .val (.int .i64) .n lead_7), (9, .val (.int .i64) .n t22_6), (10, .val (.int .i64) .n x_11), (11, .val (.int .i64) .n k_13), (12, .val (.int .i64) .n at_18), (20, .val (.list (.int .i64)) .n l_1), (21, .val (.int .i64) .n t21_4), (22, .val (.int .i64) .n t22_6)]) rfl ?_
            refine tr_skip ?_
            refine tr_seq ?_
            refine tr_rg hP tabOk hsp fun A hA M hM => ?_
            cbv
            obtain ⟨ob1, H⟩ := ck_out H
            refine ⟨by subst hA; exact ob1, hM _ ?_⟩
            refine tr_keep [0, 6, 7, 8, 9, 10, 11, 20, 21, 22, 45] (σ' := mkSl 49 0 [(0, .val (.list (.int .i64)) .n l_1), (6, .val (.int .i64) .n n_3), (7, .val (.int .i64) .n sent_17), (8, .val (.int .i64) .n lead_7), (9, .val (.int .i64) .n t22_6), (10, .val (.int .i64) .n x_11), (11, .val (.int .i64) .n k_13), (20, .val (.list (.int .i64)) .n l_1), (21, .val (.int .i64) .n t21_4), (22, .val (.int .i64) .n t22_6), (45, .val (.bool) .n (decide ((l_1.getD at_18.toNat (0 : Int)) > x_11)))]) (by subst hA; rfl) ?_
            clear ob1 hM hA M A
            refine tr_cond rfl (fun hc => ?_) (fun hc => ?_)
            · replace H := if_t H hc
              refine tr_keep [0, 6, 7, 8, 9, 10, 11, 20, 21, 22] (σ' := mkSl 49 0 [(0, .val (.list (.int .i64)) .n l_1), (6, .val (.int .i64) .n n_3), (7, .val (.int .i64) .n sent_17), (8, .val (.int .i64) .n lead_7), (9, .val (.int .i64) .n t22_6), (10, .val (.int .i64) .n x_11), (11, .val (.int .i64) .n k_13), (20, .val (.list (.int .i64)) .n l_1), (21, .val (.int .i64) .n t21_4), (22, .val (.int .i64) .n t22_6)]) rfl ?_
              refine tr_exit ?_
              exact And.intro rfl (Exists.intro _ (And.intro (Option.some.inj H).symm (by rfl)))
            · replace H := if_f H hc
              refine tr_keep [0, 6, 7, 8, 9, 10, 11, 20, 21, 22] (σ' := mkSl 49 0 [(0, .val (.list (.int .i64)) .n l_1), (6, .val (.int .i64) .n n_3), (7, .val (.int .i64) .n sent_17), (8, .val (.int .i64) .n lead_7), (9, .val (.int .i64) .n t22_6), (10, .val (.int .i64) .n x_11), (11, .val (.int .i64) .n k_13), (20, .val (.list (.int .i64)) .n l_1), (21, .val (.int .i64) .n t21_4), (22, .val (.int .i64) .n t22_6)]) rfl ?_
              refine tr_skip ?_
              refine tr_rg hP tabOk hsp fun A hA M hM => ?_
              cbv
              refine hM _ ?_
              exact Exists.intro _ (And.intro (Option.some.inj H).symm (by subst hA; rfl))
      · replace H := if_f H hc
        refine tr_keep [0, 6, 7, 8, 20, 21, 22] (σ' := mkSl 49 0 [(0, .val (.list (.int .i64)) .n l_1), (6, .val (.int .i64) .n n_3), (7, .val (.int .i64) .n sent_5), (8, .val (.int .i64) .n lead_7), (20, .val (.list (.int .i64)) .n l_1), (21, .val (.int .i64) .n t21_4), (22, .val (.int .i64) .n t22_6)]) rfl ?_
        refine tr_exit ?_
        exact And.intro rfl (Exists.intro _ (And.intro (Option.some.inj H).symm (by rfl)))
theorem ring_Round_sp : ∃ (pg : PT.denL [.list (.int .i64)] → Prop) (fg : PT.denL [.list (.int .i64)] → PT.denL [.int .i64, .int .i64, .int .i64]), SpecRuns Try.prog 8 ⟨[.list (.int .i64)], [.v], [.int .i64, .int .i64, .int .i64], [.n, .n, .n], pg, fg⟩ ∧ (∀ {a1 : List Int} {y : Int × Int × Int}, ring_Round a1 = some y → pg (a1, ()) ∧ y = ((fg (a1, ())).1, (fg (a1, ())).2.1, (fg (a1, ())).2.2.1)) ∧ (∀ {a1 : List Int}, (ring_Round a1).isSome = true → pg (a1, ())) ∧ ∀ {a1 : List Int}, (ring_Round a1).getD ((0 : Int), (0 : Int), (0 : Int)) = ((fg (a1, ())).1, (fg (a1, ())).2.1, (fg (a1, ())).2.2.1) := by
  obtain ⟨pg, fg, h, hc, hi, hd⟩ := spec_hide ring_Round_runs
  refine ⟨pg, fg, h, ?_, ?_, ?_⟩
  · intro a1 y e
    obtain ⟨h1, h2⟩ := hc (a1, ()) (y.1, y.2.1, y.2.2, ()) (congrArg (Option.map fun r => (r.1, r.2.1, r.2.2, ())) e)
    exact ⟨h1, by first | (rw [h2]; done) | (rw [h2]; rfl)⟩
  · intro a1
    intro e
    exact hi (a1, ()) (map_isSome e)
  · intro a1
    rw [hd (a1, ())]
    cases ring_Round a1 <;> rfl
end Go.Proofs.Ytiddimfepemohaa.Rg
