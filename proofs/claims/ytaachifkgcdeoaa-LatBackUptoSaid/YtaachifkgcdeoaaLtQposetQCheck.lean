/- Functions of the program as functions that may fail, and that the code computes them (printed). Each theorem bears its conditions itself. -/
import Derived.Test.YtaachifkgcdeoaaLtDefs
import Derived.Test.YtaachifkgcdeoaaLtTab
import Derived.Test.YtaachifkgcdeoaaLtQmatchQCheck
import Derived.Test.YtaachifkgcdeoaaLtQposetQclosed
open Go Go.Proofs.Ytaachifkgcdeoaa.Sy Go.Proofs
set_option maxHeartbeats 4000000
set_option maxRecDepth 100000
set_option cbv.maxSteps 10000000
set_option linter.unusedVariables false
set_option linter.unusedSimpArgs false
namespace Go.Proofs.Ytaachifkgcdeoaa.Lt
theorem poset_Check_runs : SpecRuns Try.prog 21 (oSpec [.st [.int .i64, .list (.st [.int .i64, .int .i64])]] [.v] [.int .i64] [.n] fun x => (poset_Check x.1).map fun r => (r, ())) := by
  obtain ⟨pg24, fg24, hs24, hc24, hi24, hd24⟩ := match_Check_sp
  obtain ⟨pg23, fg23, hs23, hc23, hi23, hd23⟩ := poset_closed_sp
  have hsp : SpecsOk Try.prog [(24, ⟨[.int .i64, .int .i64, .list (.st [.int .i64, .int .i64])], [.v, .v, .v], [.int .i64], [.n], pg24, fg24⟩), (23, ⟨[.st [.int .i64, .list (.st [.int .i64, .int .i64])]], [.v], [.box (.arr 20 (.arr 20 (.bool)))], [.b .n], pg23, fg23⟩)] := (specsOk_cons Try.func24 (by kernel_rfl) (by kernel_rfl) hs24 (specsOk_cons Try.func23 (by kernel_rfl) (by kernel_rfl) hs23 specsOk_nil))
  refine runs_of_o tabOk Try.func21 rfl (Nat.le_of_ble_eq_true rfl) rfl ?_
  rintro E ⟨(p_1 : (Int × List ((Int × Int × Unit)) × Unit)), ⟨⟩⟩ y hP H hw
  obtain ⟨z, H1, rfl⟩ := map_out H
  replace H : poset_Check p_1 = some z := H1
  clear hw H1
  unfold poset_Check at H
  refine tr_keep [0] (σ' := mkSl 39 0 [(0, .val (.st [.int .i64, .list (.st [.int .i64, .int .i64])]) .n p_1)]) rfl ?_
  refine tr_seq ?_
  refine tr_rg hP tabOk hsp fun A hA M hM => ?_
  cbv
  refine hM _ ?_
  refine tr_seq ?_
  refine tr_seq ?_
  refine tr_keep [1] (σ' := mkSl 39 0 [(1, .val (.box (.st [.int .i64, .list (.st [.int .i64, .int .i64])])) (.b .n) p_1)]) (by subst hA; rfl) ?_
  clear hM hA M A
  refine tr_rg hP tabOk hsp fun A hA M hM => ?_
  cbv
  refine hM _ ?_
  refine tr_keep [1, 13] (σ' := mkSl 39 0 [(1, .val (.box (.st [.int .i64, .list (.st [.int .i64, .int .i64])])) (.b .n) p_1), (13, .val (.bool) .n ((decide (p_1.1 < (0 : Int))) || (decide (p_1.1 > (20 : Int)))))]) (by subst hA; rfl) ?_
  clear hM hA M A
  refine tr_cond rfl (fun hc => ?_) (fun hc => ?_)
  · replace H := if_t H hc
    refine tr_keep [1] (σ' := mkSl 39 0 [(1, .val (.box (.st [.int .i64, .list (.st [.int .i64, .int .i64])])) (.b .n) p_1)]) rfl ?_
    refine tr_seq ?_
    refine tr_rg hP tabOk hsp fun A hA M hM => ?_
    cbv
    refine hM _ ?_
    refine tr_ret ?_
    have hr := Option.some.inj H
    subst hr
    subst hA
    exact rfl
  · replace H := if_f H hc
    refine tr_keep [1] (σ' := mkSl 39 0 [(1, .val (.box (.st [.int .i64, .list (.st [.int .i64, .int .i64])])) (.b .n) p_1)]) rfl ?_
    refine tr_skip ?_
    refine tr_seq ?_
    refine tr_seq ?_
    refine tr_rg hP tabOk hsp fun A hA M hM => ?_
    cbv
    obtain ⟨r_2, hr1, H⟩ := bind_out H
    obtain ⟨pq1, eq1⟩ := hc24 hr1
    refine ⟨by subst hA; subst eq1; exact pq1, hM _ ?_⟩
    refine tr_seq ?_
    refine tr_keep [1, 3] (σ' := mkSl 39 0 [(1, .val (.box (.st [.int .i64, .list (.st [.int .i64, .int .i64])])) (.b .n) p_1), (3, .val (.int .i64) .n r_2)]) (by subst hA; subst eq1; rfl) ?_
    clear pq1 eq1 hr1 hM hA M A
    refine tr_rg hP tabOk hsp fun A hA M hM => ?_
    cbv
    refine hM _ ?_
    refine tr_keep [1, 3, 22] (σ' := mkSl 39 0 [(1, .val (.box (.st [.int .i64, .list (.st [.int .i64, .int .i64])])) (.b .n) p_1), (3, .val (.int .i64) .n r_2), (22, .val (.bool) .n (r_2 != (0 : Int)))]) (by subst hA; rfl) ?_
    clear hM hA M A
    refine tr_cond rfl (fun hc => ?_) (fun hc => ?_)
    · replace H := if_t H hc
      refine tr_keep [1, 3] (σ' := mkSl 39 0 [(1, .val (.box (.st [.int .i64, .list (.st [.int .i64, .int .i64])])) (.b .n) p_1), (3, .val (.int .i64) .n r_2)]) rfl ?_
      refine tr_seq ?_
      refine tr_rg hP tabOk hsp fun A hA M hM => ?_
      cbv
      refine hM _ ?_
      refine tr_ret ?_
      have hr := Option.some.inj H
      subst hr
      subst hA
      exact rfl
    · replace H := if_f H hc
      refine tr_keep [1, 3] (σ' := mkSl 39 0 [(1, .val (.box (.st [.int .i64, .list (.st [.int .i64, .int .i64])])) (.b .n) p_1), (3, .val (.int .i64) .n r_2)]) rfl ?_
      refine tr_skip ?_
      refine tr_seq ?_
      refine tr_rg hP tabOk hsp fun A hA M hM => ?_
      cbv
      obtain ⟨r_3, hr1, H⟩ := bind_out H
      obtain ⟨pq1, eq1⟩ := hc23 hr1
      refine ⟨by subst hA; subst eq1; exact pq1, hM _ ?_⟩
      refine tr_seq ?_
      refine tr_seq ?_
      refine tr_keep [1, 4] (σ' := mkSl 39 0 [(1, .val (.box (.st [.int .i64, .list (.st [.int .i64, .int .i64])])) (.b .n) p_1), (4, .val (.box (.arr 20 (.arr 20 (.bool)))) (.b .n) r_3)]) (by subst hA; subst eq1; rfl) ?_
      clear pq1 eq1 hr1 hM hA M A
      refine tr_rg hP tabOk hsp fun A hA M hM => ?_
      cbv
      refine hM _ ?_
      refine tr_block ?_
      refine tr_keep [4, 27, 28] (σ' := mkSl 39 0 [(4, .val (.box (.arr 20 (.arr 20 (.bool)))) (.b .n) r_3), (27, .val (.int .i64) .n p_1.1), (28, .val (.int .i64) .n (0 : Int))]) (by subst hA; rfl) ?_
      clear hM hA M A
      obtain ⟨q, hq, Hl, Hr⟩ := bindE_out H
      refine tr_loopE 0 (fun x : Int => poset_Check_L1 p_1 r_3 x) (fun x : Int => mkSl 39 0 [(4, .val (.box (.arr 20 (.arr 20 (.bool)))) (.b .n) r_3), (27, .val (.int .i64) .n p_1.1), (28, .val (.int .i64) .n x)]) [4, 27, 28] (fun q_5 : Unit => mkSl 39 0 []) [] hq rfl Hr (fun q_5 hl σ' h => ?_) (fun x r1 H => ?_)
      · replace H := Hl q_5 hl
        refine tr_keep [] h ?_
        refine tr_seq ?_
        refine tr_rg hP tabOk hsp fun A hA M hM => ?_
        cbv
        refine hM _ ?_
        refine tr_ret ?_
        have hr := Option.some.inj H
        subst hr
        subst hA
        exact rfl
      · obtain ⟨t28_4, rfl⟩ : ∃ v, v = x := ⟨x, rfl⟩
        replace H : poset_Check_L1 p_1 r_3 t28_4 = some r1 := H
        unfold poset_Check_L1 at H
        refine tr_seq ?_
        refine tr_rg hP tabOk hsp fun A hA M hM => ?_
        cbv
        refine hM _ ?_
        refine tr_seq ?_
        refine tr_keep [4, 27, 28, 29] (σ' := mkSl 39 0 [(4, .val (.box (.arr 20 (.arr 20 (.bool)))) (.b .n) r_3), (27, .val (.int .i64) .n p_1.1), (28, .val (.int .i64) .n t28_4), (29, .val (.bool) .n (decide (t28_4 < p_1.1)))]) (by subst hA; rfl) ?_
        clear hM hA M A
        refine tr_cond rfl (fun hc => ?_) (fun hc => ?_)
        · replace H := if_t H hc
          refine tr_keep [4, 27, 28] (σ' := mkSl 39 0 [(4, .val (.box (.arr 20 (.arr 20 (.bool)))) (.b .n) r_3), (27, .val (.int .i64) .n p_1.1), (28, .val (.int .i64) .n t28_4)]) rfl ?_
          refine tr_skip ?_
          refine tr_seq ?_
          refine tr_block ?_
          refine tr_seq ?_
          refine tr_rg hP tabOk hsp fun A hA M hM => ?_
          cbv
          refine hM _ ?_
          refine tr_seq ?_
          refine tr_keep [4, 5, 27, 28] (σ' := mkSl 39 0 [(4, .val (.box (.arr 20 (.arr 20 (.bool)))) (.b .n) r_3), (5, .val (.int .i64) .n t28_4), (27, .val (.int .i64) .n p_1.1), (28, .val (.int .i64) .n t28_4)]) (by subst hA; rfl) ?_
          clear hM hA M A
          refine tr_rg hP tabOk hsp fun A hA M hM => ?_
          cbv
          obtain ⟨ob1, H⟩ := ck_out H
          obtain ⟨ob2, H⟩ := ck_out H
          refine ⟨by subst hA; exact ob1, by subst hA; exact ob2, hM _ ?_⟩
          refine tr_keep [4, 27, 28, 37] (σ' := mkSl 39 0 [(4, .val (.box (.arr 20 (.arr 20 (.bool)))) (.b .n) r_3), (27, .val (.int .i64) .n p_1.1), (28, .val (.int .i64) .n t28_4), (37, .val (.bool) .n ((r_3.getD t28_4.toNat (List.replicate 20 false)).getD t28_4.toNat false))]) (by subst hA; rfl) ?_
          clear ob2 ob1 hM hA M A
          refine tr_cond rfl (fun hc => ?_) (fun hc => ?_)
          · replace H := if_t H hc
            refine tr_keep [4, 27, 28] (σ' := mkSl 39 0 [(4, .val (.box (.arr 20 (.arr 20 (.bool)))) (.b .n) r_3), (27, .val (.int .i64) .n p_1.1), (28, .val (.int .i64) .n t28_4)]) rfl ?_
            refine tr_seq ?_
            refine tr_rg hP tabOk hsp fun A hA M hM => ?_
            cbv
            refine hM _ ?_
            refine tr_ret ?_
            have hr := Option.some.inj H
            refine Exists.intro _ (And.intro hr.symm (fun hr => ?_))
            subst hr
            subst hA
            exact rfl
          · replace H := if_f H hc
            refine tr_keep [4, 27, 28] (σ' := mkSl 39 0 [(4, .val (.box (.arr 20 (.arr 20 (.bool)))) (.b .n) r_3), (27, .val (.int .i64) .n p_1.1), (28, .val (.int .i64) .n t28_4)]) rfl ?_
            refine tr_skip ?_
            refine tr_rg hP tabOk hsp fun A hA M hM => ?_
            cbv
            refine hM _ ?_
            exact Exists.intro _ (And.intro (Option.some.inj H).symm (by subst hA; rfl))
        · replace H := if_f H hc
          refine tr_keep [4, 27, 28] (σ' := mkSl 39 0 [(4, .val (.box (.arr 20 (.arr 20 (.bool)))) (.b .n) r_3), (27, .val (.int .i64) .n p_1.1), (28, .val (.int .i64) .n t28_4)]) rfl ?_
          refine tr_exit ?_
          exact And.intro rfl (Exists.intro _ (And.intro (Option.some.inj H).symm (by rfl)))
theorem poset_Check_sp : ∃ (pg : PT.denL [.st [.int .i64, .list (.st [.int .i64, .int .i64])]] → Prop) (fg : PT.denL [.st [.int .i64, .list (.st [.int .i64, .int .i64])]] → PT.denL [.int .i64]), SpecRuns Try.prog 21 ⟨[.st [.int .i64, .list (.st [.int .i64, .int .i64])]], [.v], [.int .i64], [.n], pg, fg⟩ ∧ (∀ {a1 : (Int × List ((Int × Int × Unit)) × Unit)} {y : Int}, poset_Check a1 = some y → pg (a1, ()) ∧ y = (fg (a1, ())).1) ∧ (∀ {a1 : (Int × List ((Int × Int × Unit)) × Unit)}, (poset_Check a1).isSome = true → pg (a1, ())) ∧ ∀ {a1 : (Int × List ((Int × Int × Unit)) × Unit)}, (poset_Check a1).getD (0 : Int) = (fg (a1, ())).1 := by
  obtain ⟨pg, fg, h, hc, hi, hd⟩ := spec_hide poset_Check_runs
  refine ⟨pg, fg, h, ?_, ?_, ?_⟩
  · intro a1 y e
    obtain ⟨h1, h2⟩ := hc (a1, ()) (y, ()) (congrArg (Option.map fun r => (r, ())) e)
    exact ⟨h1, by first | (rw [h2]; done) | (rw [h2]; rfl)⟩
  · intro a1
    intro e
    exact hi (a1, ()) (map_isSome e)
  · intro a1
    rw [hd (a1, ())]
    cases poset_Check a1 <;> rfl
end Go.Proofs.Ytaachifkgcdeoaa.Lt
