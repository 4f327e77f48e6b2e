/- Functions of the program as functions that may fail, and that the code computes them (printed). Each theorem bears its conditions itself. -/
import Derived.Test.YtaachifkgcdeoaaLtDefs
import Derived.Test.YtaachifkgcdeoaaLtTab
open Go Go.Proofs.Ytaachifkgcdeoaa.Sy Go.Proofs
set_option maxHeartbeats 4000000
set_option maxRecDepth 100000
set_option cbv.maxSteps 10000000
set_option linter.unusedVariables false
set_option linter.unusedSimpArgs false
namespace Go.Proofs.Ytaachifkgcdeoaa.Lt
theorem match_Check_runs : SpecRuns Try.prog 24 (oSpec [.int .i64, .int .i64, .list (.st [.int .i64, .int .i64])] [.v, .v, .v] [.int .i64] [.n] fun x => (match_Check x.1 x.2.1 x.2.2.1).map fun r => (r, ())) := by
  have hsp : SpecsOk Try.prog [] := specsOk_nil
  refine runs_of_o tabOk Try.func24 rfl (Nat.le_of_ble_eq_true rfl) rfl ?_
  rintro E ⟨(m_1 : Int), (n_2 : Int), (l_3 : List ((Int × Int × Unit))), ⟨⟩⟩ y hP H hw
  obtain ⟨z, H1, rfl⟩ := map_out H
  replace H : match_Check m_1 n_2 l_3 = some z := H1
  clear hw H1
  unfold match_Check at H
  refine tr_keep [0, 1, 2] (σ' := mkSl 53 0 [(0, .val (.int .i64) .n m_1), (1, .val (.int .i64) .n n_2), (2, .val (.list (.st [.int .i64, .int .i64])) .n l_3)]) rfl ?_
  refine tr_seq ?_
  refine tr_rg hP tabOk hsp fun A hA M hM => ?_
  cbv
  refine hM _ ?_
  refine tr_seq ?_
  refine tr_seq ?_
  refine tr_keep [0, 1, 2] (σ' := mkSl 53 0 [(0, .val (.int .i64) .n m_1), (1, .val (.int .i64) .n n_2), (2, .val (.list (.st [.int .i64, .int .i64])) .n l_3)]) (by subst hA; rfl) ?_
  clear hM hA M A
  refine tr_rg hP tabOk hsp fun A hA M hM => ?_
  cbv
  refine hM _ ?_
  refine tr_keep [0, 1, 2, 22] (σ' := mkSl 53 0 [(0, .val (.int .i64) .n m_1), (1, .val (.int .i64) .n n_2), (2, .val (.list (.st [.int .i64, .int .i64])) .n l_3), (22, .val (.bool) .n ((((decide (m_1 < (0 : Int))) || (decide (m_1 > (40 : Int)))) || (decide (n_2 < (0 : Int)))) || (decide (n_2 > (40 : Int)))))]) (by subst hA; rfl) ?_
  clear hM hA M A
  refine tr_cond rfl (fun hc => ?_) (fun hc => ?_)
  · replace H := if_t H hc
    refine tr_keep [0, 1, 2] (σ' := mkSl 53 0 [(0, .val (.int .i64) .n m_1), (1, .val (.int .i64) .n n_2), (2, .val (.list (.st [.int .i64, .int .i64])) .n l_3)]) rfl ?_
    refine tr_seq ?_
    refine tr_rg hP tabOk hsp fun A hA M hM => ?_
    cbv
    refine hM _ ?_
    refine tr_ret ?_
    have hr := Option.some.inj H
    subst hr
    subst hA
    exact rfl
  · replace H := if_f H hc
    refine tr_keep [0, 1, 2] (σ' := mkSl 53 0 [(0, .val (.int .i64) .n m_1), (1, .val (.int .i64) .n n_2), (2, .val (.list (.st [.int .i64, .int .i64])) .n l_3)]) rfl ?_
    refine tr_skip ?_
    refine tr_seq ?_
    refine tr_seq ?_
    refine tr_rg hP tabOk hsp fun A hA M hM => ?_
    cbv
    refine hM _ ?_
    refine tr_keep [0, 1, 2, 25] (σ' := mkSl 53 0 [(0, .val (.int .i64) .n m_1), (1, .val (.int .i64) .n n_2), (2, .val (.list (.st [.int .i64, .int .i64])) .n l_3), (25, .val (.bool) .n (decide ((l_3.length : Int) > (600 : Int))))]) (by subst hA; rfl) ?_
    clear hM hA M A
    refine tr_cond rfl (fun hc => ?_) (fun hc => ?_)
    · replace H := if_t H hc
      refine tr_keep [0, 1, 2] (σ' := mkSl 53 0 [(0, .val (.int .i64) .n m_1), (1, .val (.int .i64) .n n_2), (2, .val (.list (.st [.int .i64, .int .i64])) .n l_3)]) rfl ?_
      refine tr_seq ?_
      refine tr_rg hP tabOk hsp fun A hA M hM => ?_
      cbv
      refine hM _ ?_
      refine tr_ret ?_
      have hr := Option.some.inj H
      subst hr
      subst hA
      exact rfl
    · replace H := if_f H hc
      refine tr_keep [0, 1, 2] (σ' := mkSl 53 0 [(0, .val (.int .i64) .n m_1), (1, .val (.int .i64) .n n_2), (2, .val (.list (.st [.int .i64, .int .i64])) .n l_3)]) rfl ?_
      refine tr_skip ?_
      refine tr_seq ?_
      refine tr_seq ?_
      refine tr_rg hP tabOk hsp fun A hA M hM => ?_
      cbv
      refine hM _ ?_
      refine tr_block ?_
      refine tr_keepL [0, 1, 26, 27, 28] (fun t27_4 : Int => mkSl 53 0 [(0, .val (.int .i64) .n m_1), (1, .val (.int .i64) .n n_2), (26, .val (.list (.st [.int .i64, .int .i64])) .n l_3), (27, .val (.int .i64) .n t27_4), (28, .val (.int .i64) .n (0 : Int))]) H (by subst hA; rfl) (fun t27_4 H => ?_)
      clear hM hA M A
      obtain ⟨q, hq, Hl, Hr⟩ := bindE_out H
      refine tr_loopE 0 (fun x : Int => match_Check_L1 m_1 n_2 l_3 t27_4 x) (fun x : Int => mkSl 53 0 [(0, .val (.int .i64) .n m_1), (1, .val (.int .i64) .n n_2), (26, .val (.list (.st [.int .i64, .int .i64])) .n l_3), (27, .val (.int .i64) .n t27_4), (28, .val (.int .i64) .n x)]) [0, 1, 26, 27, 28] (fun q_6 : Unit => mkSl 53 0 []) [] hq rfl Hr (fun q_6 hl σ' h => ?_) (fun x r1 H => ?_)
      · replace H := Hl q_6 hl
        refine tr_keep [] h ?_
        refine tr_seq ?_
        refine tr_rg hP tabOk hsp fun A hA M hM => ?_
        cbv
        refine hM _ ?_
        refine tr_ret ?_
        have hr := Option.some.inj H
        subst hr
        subst hA
        exact rfl
      · obtain ⟨t28_5, rfl⟩ : ∃ v, v = x := ⟨x, rfl⟩
        replace H : match_Check_L1 m_1 n_2 l_3 t27_4 t28_5 = some r1 := H
        unfold match_Check_L1 at H
        refine tr_seq ?_
        refine tr_rg hP tabOk hsp fun A hA M hM => ?_
        cbv
        refine hM _ ?_
        refine tr_seq ?_
        refine tr_keep [0, 1, 26, 27, 28, 29] (σ' := mkSl 53 0 [(0, .val (.int .i64) .n m_1), (1, .val (.int .i64) .n n_2), (26, .val (.list (.st [.int .i64, .int .i64])) .n l_3), (27, .val (.int .i64) .n t27_4), (28, .val (.int .i64) .n t28_5), (29, .val (.bool) .n (decide (t28_5 < t27_4)))]) (by subst hA; rfl) ?_
        clear hM hA M A
        refine tr_cond rfl (fun hc => ?_) (fun hc => ?_)
        · replace H := if_t H hc
          refine tr_keep [0, 1, 26, 27, 28] (σ' := mkSl 53 0 [(0, .val (.int .i64) .n m_1), (1, .val (.int .i64) .n n_2), (26, .val (.list (.st [.int .i64, .int .i64])) .n l_3), (27, .val (.int .i64) .n t27_4), (28, .val (.int .i64) .n t28_5)]) rfl ?_
          refine tr_skip ?_
          refine tr_seq ?_
          refine tr_block ?_
          refine tr_seq ?_
          refine tr_rg hP tabOk hsp fun A hA M hM => ?_
          cbv
          obtain ⟨ob1, H⟩ := ck_out H
          refine ⟨by subst hA; exact ob1, hM _ ?_⟩
          refine tr_seq ?_
          refine tr_keepL [0, 1, 8, 26, 27, 28] (fun p_7 : (Int × Int × Unit) => mkSl 53 0 [(0, .val (.int .i64) .n m_1), (1, .val (.int .i64) .n n_2), (8, .val (.box (.st [.int .i64, .int .i64])) (.b .n) p_7), (26, .val (.list (.st [.int .i64, .int .i64])) .n l_3), (27, .val (.int .i64) .n t27_4), (28, .val (.int .i64) .n t28_5)]) H (by subst hA; rfl) (fun p_7 H => ?_)
          clear ob1 hM hA M A
          refine tr_rg hP tabOk hsp fun A hA M hM => ?_
          cbv
          refine hM _ ?_
          refine tr_keep [0, 1, 26, 27, 28, 51] (σ' := mkSl 53 0 [(0, .val (.int .i64) .n m_1), (1, .val (.int .i64) .n n_2), (26, .val (.list (.st [.int .i64, .int .i64])) .n l_3), (27, .val (.int .i64) .n t27_4), (28, .val (.int .i64) .n t28_5), (51, .val (.bool) .n ((((decide (p_7.1 < (0 : Int))) || (decide (p_7.1 ≥ m_1))) || (decide (p_7.2.1 < (0 : Int)))) || (decide (p_7.2.1 ≥ n_2))))]) (by subst hA; rfl) ?_
          clear hM hA M A
          refine tr_cond rfl (fun hc => ?_) (fun hc => ?_)
          · replace H := if_t H hc
            refine tr_keep [0, 1, 26, 27, 28] (σ' := mkSl 53 0 [(0, .val (.int .i64) .n m_1), (1, .val (.int .i64) .n n_2), (26, .val (.list (.st [.int .i64, .int .i64])) .n l_3), (27, .val (.int .i64) .n t27_4), (28, .val (.int .i64) .n t28_5)]) rfl ?_
            refine tr_seq ?_
            refine tr_rg hP tabOk hsp fun A hA M hM => ?_
            cbv
            refine hM _ ?_
            refine tr_ret ?_
            have hr := Option.some.inj H
            refine Exists.intro _ (And.intro hr.symm (fun hr => ?_))
            subst hr
            subst hA
            exact rfl
          · replace H := if_f H hc
            refine tr_keep [0, 1, 26, 27, 28] (σ' := mkSl 53 0 [(0, .val (.int .i64) .n m_1), (1, .val (.int .i64) .n n_2), (26, .val (.list (.st [.int .i64, .int .i64])) .n l_3), (27, .val (.int .i64) .n t27_4), (28, .val (.int .i64) .n t28_5)]) rfl ?_
            refine tr_skip ?_
            refine tr_rg hP tabOk hsp fun A hA M hM => ?_
            cbv
            refine hM _ ?_
            exact Exists.intro _ (And.intro (Option.some.inj H).symm (by subst hA; rfl))
        · replace H := if_f H hc
          refine tr_keep [0, 1, 26, 27, 28] (σ' := mkSl 53 0 [(0, .val (.int .i64) .n m_1), (1, .val (.int .i64) .n n_2), (26, .val (.list (.st [.int .i64, .int .i64])) .n l_3), (27, .val (.int .i64) .n t27_4), (28, .val (.int .i64) .n t28_5)]) rfl ?_
          refine tr_exit ?_
          exact And.intro rfl (Exists.intro _ (And.intro (Option.some.inj H).symm (by rfl)))
theorem match_Check_sp : ∃ (pg : PT.denL [.int .i64, .int .i64, .list (.st [.int .i64, .int .i64])] → Prop) (fg : PT.denL [.int .i64, .int .i64, .list (.st [.int .i64, .int .i64])] → PT.denL [.int .i64]), SpecRuns Try.prog 24 ⟨[.int .i64, .int .i64, .list (.st [.int .i64, .int .i64])], [.v, .v, .v], [.int .i64], [.n], pg, fg⟩ ∧ (∀ {a1 : Int} {a2 : Int} {a3 : List ((Int × Int × Unit))} {y : Int}, match_Check a1 a2 a3 = some y → pg (a1, a2, a3, ()) ∧ y = (fg (a1, a2, a3, ())).1) ∧ (∀ {a1 : Int} {a2 : Int} {a3 : List ((Int × Int × Unit))}, (match_Check a1 a2 a3).isSome = true → pg (a1, a2, a3, ())) ∧ ∀ {a1 : Int} {a2 : Int} {a3 : List ((Int × Int × Unit))}, (match_Check a1 a2 a3).getD (0 : Int) = (fg (a1, a2, a3, ())).1 := by
  obtain ⟨pg, fg, h, hc, hi, hd⟩ := spec_hide match_Check_runs
  refine ⟨pg, fg, h, ?_, ?_, ?_⟩
  · intro a1 a2 a3 y e
    obtain ⟨h1, h2⟩ := hc (a1, a2, a3, ()) (y, ()) (congrArg (Option.map fun r => (r, ())) e)
    exact ⟨h1, by first | (rw [h2]; done) | (rw [h2]; rfl)⟩
  · intro a1 a2 a3
    intro e
    exact hi (a1, a2, a3, ()) (map_isSome e)
  · intro a1 a2 a3
    rw [hd (a1, a2, a3, ())]
    cases match_Check a1 a2 a3 <;> rfl
end Go.Proofs.Ytaachifkgcdeoaa.Lt
