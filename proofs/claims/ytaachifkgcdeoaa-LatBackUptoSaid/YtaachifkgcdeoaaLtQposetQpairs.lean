/- Functions of the program as functions that may fail, and that the code computes them (printed). Each theorem bears its conditions itself. -/
import Derived.Test.YtaachifkgcdeoaaLtDefs
import Derived.Test.YtaachifkgcdeoaaLtTab
open Go Go.Proofs.Ytaachifkgcdeoaa.Sy Go.Proofs
set_option maxHeartbeats 4000000
set_option maxRecDepth 100000
set_option cbv.maxSteps 10000000
set_option linter.unusedVariables false
set_option linter.unusedSimpArgs false
namespace Go.Proofs.Ytaachifkgcdeoaa.Lt
theorem poset_pairs_runs : SpecRuns Try.prog 22 (oSpec [.arr 20 (.arr 20 (.bool)), .int .i64] [.p, .v] [.list (.st [.int .i64, .int .i64])] [.l .n] fun x => (poset_pairs x.1 x.2.1).map fun r => (r, ())) := by
  have hsp : SpecsOk Try.prog [] := specsOk_nil
  refine runs_of_o tabOk Try.func22 rfl (Nat.le_of_ble_eq_true rfl) rfl ?_
  rintro E ⟨(t_1 : List (List Bool)), (n_2 : Int), ⟨⟩⟩ y hP H hw
  obtain ⟨z, H1, rfl⟩ := map_out H
  replace H : poset_pairs t_1 n_2 = some z := H1
  clear hw H1
  unfold poset_pairs at H
  refine tr_keep [0, 1] (σ' := mkSl 32 0 [(0, .pv (.arr 20 (.arr 20 (.bool))) t_1), (1, .val (.int .i64) .n n_2)]) rfl ?_
  refine tr_seq ?_
  refine tr_rg hP tabOk hsp fun A hA M hM => ?_
  cbv
  refine hM _ ?_
  refine tr_seq ?_
  refine tr_keep [0, 1, 4] (σ' := mkSl 32 0 [(0, .pv (.arr 20 (.arr 20 (.bool))) t_1), (1, .val (.int .i64) .n n_2), (4, .val (.list (.st [.int .i64, .int .i64])) (.l .n) ([] : List ((Int × Int × Unit))))]) (by subst hA; rfl) ?_
  clear hM hA M A
  refine tr_rg hP tabOk hsp fun A hA M hM => ?_
  cbv
  refine hM _ ?_
  refine tr_seq ?_
  refine tr_seq ?_
  refine tr_keep [0, 1, 4, 5] (σ' := mkSl 32 0 [(0, .pv (.arr 20 (.arr 20 (.bool))) t_1), (1, .val (.int .i64) .n n_2), (4, .val (.list (.st [.int .i64, .int .i64])) (.l .n) ([] : List ((Int × Int × Unit)))), (5, .val (.list (.st [.int .i64, .int .i64])) (.l .n) ([] : List ((Int × Int × Unit))))]) (by subst hA; rfl) ?_
  clear hM hA M A
  refine tr_rg hP tabOk hsp fun A hA M hM => ?_
  cbv
  refine hM _ ?_
  refine tr_block ?_
  refine tr_keep [0, 1, 4, 5, 8, 9] (σ' := mkSl 32 0 [(0, .pv (.arr 20 (.arr 20 (.bool))) t_1), (1, .val (.int .i64) .n n_2), (4, .val (.list (.st [.int .i64, .int .i64])) (.l .n) ([] : List ((Int × Int × Unit)))), (5, .val (.list (.st [.int .i64, .int .i64])) (.l .n) ([] : List ((Int × Int × Unit)))), (8, .val (.int .i64) .n n_2), (9, .val (.int .i64) .n (0 : Int))]) (by subst hA; rfl) ?_
  clear hM hA M A
  obtain ⟨q_6, hq, H⟩ := bind_out H
  refine tr_loopB 0 (fun x : List ((Int × Int × Unit)) × Int => poset_pairs_L1 t_1 n_2 x.1 x.2) (fun x : List ((Int × Int × Unit)) × Int => mkSl 32 0 [(0, .pv (.arr 20 (.arr 20 (.bool))) t_1), (1, .val (.int .i64) .n n_2), (4, .val (.list (.st [.int .i64, .int .i64])) (.l .n) ([] : List ((Int × Int × Unit)))), (5, .val (.list (.st [.int .i64, .int .i64])) (.l .n) x.1), (8, .val (.int .i64) .n n_2), (9, .val (.int .i64) .n x.2)]) [0, 1, 4, 5, 8, 9] (fun q_6 : List ((Int × Int × Unit)) => mkSl 32 0 [(4, .val (.list (.st [.int .i64, .int .i64])) (.l .n) ([] : List ((Int × Int × Unit)))), (5, .val (.list (.st [.int .i64, .int .i64])) (.l .n) q_6)]) [4, 5] hq rfl (fun σ' h => ?_) (fun x r1 H => ?_)
  · refine tr_keep [4, 5] h ?_
    refine tr_seq ?_
    refine tr_rg hP tabOk hsp fun A hA M hM => ?_
    cbv
    refine hM _ ?_
    refine tr_ret ?_
    have hr := Option.some.inj H
    subst hr
    subst hA
    exact rfl
  · obtain ⟨out_3, t9_4⟩ := x
    replace H : poset_pairs_L1 t_1 n_2 out_3 t9_4 = some r1 := H
    unfold poset_pairs_L1 at H
    refine tr_seq ?_
    refine tr_rg hP tabOk hsp fun A hA M hM => ?_
    cbv
    refine hM _ ?_
    refine tr_seq ?_
    refine tr_keep [0, 1, 4, 5, 8, 9, 10] (σ' := mkSl 32 0 [(0, .pv (.arr 20 (.arr 20 (.bool))) t_1), (1, .val (.int .i64) .n n_2), (4, .val (.list (.st [.int .i64, .int .i64])) (.l .n) ([] : List ((Int × Int × Unit)))), (5, .val (.list (.st [.int .i64, .int .i64])) (.l .n) out_3), (8, .val (.int .i64) .n n_2), (9, .val (.int .i64) .n t9_4), (10, .val (.bool) .n (decide (t9_4 < n_2)))]) (by subst hA; rfl) ?_
    clear hM hA M A
    refine tr_cond rfl (fun hc => ?_) (fun hc => ?_)
    · replace H := if_t H hc
      refine tr_keep [0, 1, 4, 5, 8, 9] (σ' := mkSl 32 0 [(0, .pv (.arr 20 (.arr 20 (.bool))) t_1), (1, .val (.int .i64) .n n_2), (4, .val (.list (.st [.int .i64, .int .i64])) (.l .n) ([] : List ((Int × Int × Unit)))), (5, .val (.list (.st [.int .i64, .int .i64])) (.l .n) out_3), (8, .val (.int .i64) .n n_2), (9, .val (.int .i64) .n t9_4)]) rfl ?_
      refine tr_skip ?_
      refine tr_seq ?_
      refine tr_block ?_
      refine tr_seq ?_
      refine tr_rg hP tabOk hsp fun A hA M hM => ?_
      cbv
      refine hM _ ?_
      refine tr_seq ?_
      refine tr_keep [0, 1, 4, 5, 6, 8, 9] (σ' := mkSl 32 0 [(0, .pv (.arr 20 (.arr 20 (.bool))) t_1), (1, .val (.int .i64) .n n_2), (4, .val (.list (.st [.int .i64, .int .i64])) (.l .n) ([] : List ((Int × Int × Unit)))), (5, .val (.list (.st [.int .i64, .int .i64])) (.l .n) out_3), (6, .val (.int .i64) .n t9_4), (8, .val (.int .i64) .n n_2), (9, .val (.int .i64) .n t9_4)]) (by subst hA; rfl) ?_
      clear hM hA M A
      refine tr_rg hP tabOk hsp fun A hA M hM => ?_
      cbv
      refine hM _ ?_
      refine tr_block ?_
      refine tr_keep [0, 1, 4, 5, 6, 8, 9, 12, 13] (σ' := mkSl 32 0 [(0, .pv (.arr 20 (.arr 20 (.bool))) t_1), (1, .val (.int .i64) .n n_2), (4, .val (.list (.st [.int .i64, .int .i64])) (.l .n) ([] : List ((Int × Int × Unit)))), (5, .val (.list (.st [.int .i64, .int .i64])) (.l .n) out_3), (6, .val (.int .i64) .n t9_4), (8, .val (.int .i64) .n n_2), (9, .val (.int .i64) .n t9_4), (12, .val (.int .i64) .n n_2), (13, .val (.int .i64) .n (0 : Int))]) (by subst hA; rfl) ?_
      clear hM hA M A
      obtain ⟨q_10, hq, H⟩ := bind_out H
      refine tr_loopB 2 (fun x : List ((Int × Int × Unit)) × Int => poset_pairs_L2 t_1 n_2 t9_4 x.1 x.2) (fun x : List ((Int × Int × Unit)) × Int => mkSl 32 0 [(0, .pv (.arr 20 (.arr 20 (.bool))) t_1), (1, .val (.int .i64) .n n_2), (4, .val (.list (.st [.int .i64, .int .i64])) (.l .n) ([] : List ((Int × Int × Unit)))), (5, .val (.list (.st [.int .i64, .int .i64])) (.l .n) x.1), (6, .val (.int .i64) .n t9_4), (8, .val (.int .i64) .n n_2), (9, .val (.int .i64) .n t9_4), (12, .val (.int .i64) .n n_2), (13, .val (.int .i64) .n x.2)]) [0, 1, 4, 5, 6, 8, 9, 12, 13] (fun q_10 : List ((Int × Int × Unit)) => mkSl 32 0 [(0, .pv (.arr 20 (.arr 20 (.bool))) t_1), (1, .val (.int .i64) .n n_2), (4, .val (.list (.st [.int .i64, .int .i64])) (.l .n) ([] : List ((Int × Int × Unit)))), (5, .val (.list (.st [.int .i64, .int .i64])) (.l .n) q_10), (8, .val (.int .i64) .n n_2), (9, .val (.int .i64) .n t9_4)]) [0, 1, 4, 5, 8, 9] hq rfl (fun σ' h => ?_) (fun x r2 H => ?_)
      · refine tr_keep [0, 1, 4, 5, 8, 9] h ?_
        refine tr_rg hP tabOk hsp fun A hA M hM => ?_
        cbv
        refine hM _ ?_
        exact Exists.intro _ (And.intro (Option.some.inj H).symm (by subst hA; rfl))
      · obtain ⟨out_7, t13_8⟩ := x
        replace H : poset_pairs_L2 t_1 n_2 t9_4 out_7 t13_8 = some r2 := H
        unfold poset_pairs_L2 at H
        refine tr_seq ?_
        refine tr_rg hP tabOk hsp fun A hA M hM => ?_
        cbv
        refine hM _ ?_
        refine tr_seq ?_
        refine tr_keep [0, 1, 4, 5, 6, 8, 9, 12, 13, 14] (σ' := mkSl 32 0 [(0, .pv (.arr 20 (.arr 20 (.bool))) t_1), (1, .val (.int .i64) .n n_2), (4, .val (.list (.st [.int .i64, .int .i64])) (.l .n) ([] : List ((Int × Int × Unit)))), (5, .val (.list (.st [.int .i64, .int .i64])) (.l .n) out_7), (6, .val (.int .i64) .n t9_4), (8, .val (.int .i64) .n n_2), (9, .val (.int .i64) .n t9_4), (12, .val (.int .i64) .n n_2), (13, .val (.int .i64) .n t13_8), (14, .val (.bool) .n (decide (t13_8 < n_2)))]) (by subst hA; rfl) ?_
        clear hM hA M A
        refine tr_cond rfl (fun hc => ?_) (fun hc => ?_)
        · replace H := if_t H hc
          refine tr_keep [0, 1, 4, 5, 6, 8, 9, 12, 13] (σ' := mkSl 32 0 [(0, .pv (.arr 20 (.arr 20 (.bool))) t_1), (1, .val (.int .i64) .n n_2), (4, .val (.list (.st [.int .i64, .int .i64])) (.l .n) ([] : List ((Int × Int × Unit)))), (5, .val (.list (.st [.int .i64, .int .i64])) (.l .n) out_7), (6, .val (.int .i64) .n t9_4), (8, .val (.int .i64) .n n_2), (9, .val (.int .i64) .n t9_4), (12, .val (.int .i64) .n n_2), (13, .val (.int .i64) .n t13_8)]) rfl ?_
          refine tr_skip ?_
          refine tr_seq ?_
          refine tr_block ?_
          refine tr_seq ?_
          refine tr_rg hP tabOk hsp fun A hA M hM => ?_
          cbv
          refine hM _ ?_
          refine tr_seq ?_
          refine tr_keep [0, 1, 4, 5, 6, 7, 8, 9, 12, 13] (σ' := mkSl 32 0 [(0, .pv (.arr 20 (.arr 20 (.bool))) t_1), (1, .val (.int .i64) .n n_2), (4, .val (.list (.st [.int .i64, .int .i64])) (.l .n) ([] : List ((Int × Int × Unit)))), (5, .val (.list (.st [.int .i64, .int .i64])) (.l .n) out_7), (6, .val (.int .i64) .n t9_4), (7, .val (.int .i64) .n t13_8), (8, .val (.int .i64) .n n_2), (9, .val (.int .i64) .n t9_4), (12, .val (.int .i64) .n n_2), (13, .val (.int .i64) .n t13_8)]) (by subst hA; rfl) ?_
          clear hM hA M A
          refine tr_rg hP tabOk hsp fun A hA M hM => ?_
          cbv
          obtain ⟨ob1, H⟩ := ck_out H
          obtain ⟨ob2, H⟩ := ck_out H
          refine ⟨by subst hA; exact ob1, by subst hA; exact ob2, hM _ ?_⟩
          refine tr_keep [0, 1, 4, 5, 6, 7, 8, 9, 12, 13, 22] (σ' := mkSl 32 0 [(0, .pv (.arr 20 (.arr 20 (.bool))) t_1), (1, .val (.int .i64) .n n_2), (4, .val (.list (.st [.int .i64, .int .i64])) (.l .n) ([] : List ((Int × Int × Unit)))), (5, .val (.list (.st [.int .i64, .int .i64])) (.l .n) out_7), (6, .val (.int .i64) .n t9_4), (7, .val (.int .i64) .n t13_8), (8, .val (.int .i64) .n n_2), (9, .val (.int .i64) .n t9_4), (12, .val (.int .i64) .n n_2), (13, .val (.int .i64) .n t13_8), (22, .val (.bool) .n ((t_1.getD t9_4.toNat (List.replicate 20 false)).getD t13_8.toNat false))]) (by subst hA; rfl) ?_
          clear ob2 ob1 hM hA M A
          refine tr_join (z := r2) (fun y : List ((Int × Int × Unit)) => poset_pairs_J3 t13_8 y) (fun y : List ((Int × Int × Unit)) => mkSl 32 0 [(0, .pv (.arr 20 (.arr 20 (.bool))) t_1), (1, .val (.int .i64) .n n_2), (4, .val (.list (.st [.int .i64, .int .i64])) (.l .n) ([] : List ((Int × Int × Unit)))), (5, .val (.list (.st [.int .i64, .int .i64])) (.l .n) y), (6, .val (.int .i64) .n t9_4), (8, .val (.int .i64) .n n_2), (9, .val (.int .i64) .n t9_4), (12, .val (.int .i64) .n n_2), (13, .val (.int .i64) .n t13_8)]) [0, 1, 4, 5, 6, 8, 9, 12, 13] (fun _ h => h) (fun y H => ?_) (fun hJ3 => ?_)
          · obtain ⟨out_11, rfl⟩ : ∃ v, v = y := ⟨y, rfl⟩
            replace H : poset_pairs_J3 t13_8 out_11 = some r2 := H
            unfold poset_pairs_J3 at H
            refine tr_rg hP tabOk hsp fun A hA M hM => ?_
            cbv
            refine hM _ ?_
            exact Exists.intro _ (And.intro (Option.some.inj H).symm (by subst hA; rfl))
          · refine tr_cond rfl (fun hc => ?_) (fun hc => ?_)
            · replace H := if_t H hc
              refine tr_keep [0, 1, 4, 5, 6, 7, 8, 9, 12, 13] (σ' := mkSl 32 0 [(0, .pv (.arr 20 (.arr 20 (.bool))) t_1), (1, .val (.int .i64) .n n_2), (4, .val (.list (.st [.int .i64, .int .i64])) (.l .n) ([] : List ((Int × Int × Unit)))), (5, .val (.list (.st [.int .i64, .int .i64])) (.l .n) out_7), (6, .val (.int .i64) .n t9_4), (7, .val (.int .i64) .n t13_8), (8, .val (.int .i64) .n n_2), (9, .val (.int .i64) .n t9_4), (12, .val (.int .i64) .n n_2), (13, .val (.int .i64) .n t13_8)]) rfl ?_
              refine tr_rg hP tabOk hsp fun A hA M hM => ?_
              cbv
              obtain ⟨ob1, H⟩ := ck_out H
              refine ⟨by subst hA; exact ob1, hM _ ?_⟩
              exact hJ3 (out_7 ++ [(t9_4, t13_8, ())]) _ H (by subst hA; rfl)
            · replace H := if_f H hc
              refine tr_keep [0, 1, 4, 5, 6, 7, 8, 9, 12, 13] (σ' := mkSl 32 0 [(0, .pv (.arr 20 (.arr 20 (.bool))) t_1), (1, .val (.int .i64) .n n_2), (4, .val (.list (.st [.int .i64, .int .i64])) (.l .n) ([] : List ((Int × Int × Unit)))), (5, .val (.list (.st [.int .i64, .int .i64])) (.l .n) out_7), (6, .val (.int .i64) .n t9_4), (7, .val (.int .i64) .n t13_8), (8, .val (.int .i64) .n n_2), (9, .val (.int .i64) .n t9_4), (12, .val (.int .i64) .n n_2), (13, .val (.int .i64) .n t13_8)]) rfl ?_
              refine tr_skip ?_
              exact hJ3 out_7 _ H (by rfl)
        · replace H := if_f H hc
          refine tr_keep [0, 1, 4, 5, 6, 8, 9, 12, 13] (σ' := mkSl 32 0 [(0, .pv (.arr 20 (.arr 20 (.bool))) t_1), (1, .val (.int .i64) .n n_2), (4, .val (.list (.st [.int .i64, .int .i64])) (.l .n) ([] : List ((Int × Int × Unit)))), (5, .val (.list (.st [.int .i64, .int .i64])) (.l .n) out_7), (6, .val (.int .i64) .n t9_4), (8, .val (.int .i64) .n n_2), (9, .val (.int .i64) .n t9_4), (12, .val (.int .i64) .n n_2), (13, .val (.int .i64) .n t13_8)]) rfl ?_
          refine tr_exit ?_
          exact And.intro rfl (Exists.intro _ (And.intro (Option.some.inj H).symm (by rfl)))
    · replace H := if_f H hc
      refine tr_keep [0, 1, 4, 5, 8, 9] (σ' := mkSl 32 0 [(0, .pv (.arr 20 (.arr 20 (.bool))) t_1), (1, .val (.int .i64) .n n_2), (4, .val (.list (.st [.int .i64, .int .i64])) (.l .n) ([] : List ((Int × Int × Unit)))), (5, .val (.list (.st [.int .i64, .int .i64])) (.l .n) out_3), (8, .val (.int .i64) .n n_2), (9, .val (.int .i64) .n t9_4)]) rfl ?_
      refine tr_exit ?_
      exact And.intro rfl (Exists.intro _ (And.intro (Option.some.inj H).symm (by rfl)))
theorem poset_pairs_sp : ∃ (pg : PT.denL [.arr 20 (.arr 20 (.bool)), .int .i64] → Prop) (fg : PT.denL [.arr 20 (.arr 20 (.bool)), .int .i64] → PT.denL [.list (.st [.int .i64, .int .i64])]), SpecRuns Try.prog 22 ⟨[.arr 20 (.arr 20 (.bool)), .int .i64], [.p, .v], [.list (.st [.int .i64, .int .i64])], [.l .n], pg, fg⟩ ∧ (∀ {a1 : List (List Bool)} {a2 : Int} {y : List ((Int × Int × Unit))}, poset_pairs a1 a2 = some y → pg (a1, a2, ()) ∧ y = (fg (a1, a2, ())).1) ∧ (∀ {a1 : List (List Bool)} {a2 : Int}, (poset_pairs a1 a2).isSome = true → pg (a1, a2, ())) ∧ ∀ {a1 : List (List Bool)} {a2 : Int}, (poset_pairs a1 a2).getD ([] : List ((Int × Int × Unit))) = (fg (a1, a2, ())).1 := by
  obtain ⟨pg, fg, h, hc, hi, hd⟩ := spec_hide poset_pairs_runs
  refine ⟨pg, fg, h, ?_, ?_, ?_⟩
  · intro a1 a2 y e
    obtain ⟨h1, h2⟩ := hc (a1, a2, ()) (y, ()) (congrArg (Option.map fun r => (r, ())) e)
    exact ⟨h1, by first | (rw [h2]; done) | (rw [h2]; rfl)⟩
  · intro a1 a2
    intro e
    exact hi (a1, a2, ()) (map_isSome e)
  · intro a1 a2
    rw [hd (a1, a2, ())]
    cases poset_pairs a1 a2 <;> rfl
end Go.Proofs.Ytaachifkgcdeoaa.Lt
