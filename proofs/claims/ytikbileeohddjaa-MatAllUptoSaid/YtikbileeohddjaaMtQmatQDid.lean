/- Functions of the program as functions that may fail, and that the code computes them (printed). Each theorem bears its conditions itself. -/
import Derived.Test.YtikbileeohddjaaMtDefs
import Derived.Test.YtikbileeohddjaaMtTab
import Derived.Test.YtikbileeohddjaaMtQmatQCheck
open Go Go.Proofs.Ytikbileeohddjaa.Sy Go.Proofs
set_option maxHeartbeats 4000000
set_option maxRecDepth 100000
set_option cbv.maxSteps 10000000
set_option linter.unusedVariables false
set_option linter.unusedSimpArgs false
namespace Go.Proofs.Ytikbileeohddjaa.Mt
theorem mat_Did_runs : SpecRuns Try.prog 8 (oSpec [.st [.int .i64, .int .i64, .arr 6 (.arr 6 (.int .i64))]] [.v] [.st [.int .i64, .int .i64, .arr 6 (.arr 6 (.int .i64))], .int .i64] [.n, .n] fun x => (mat_Did x.1).map fun r => (r.1, r.2, ())) := by
  obtain ⟨pg13, fg13, hs13, hc13, hi13, hd13⟩ := mat_Check_sp
  have hsp : SpecsOk Try.prog [(13, ⟨[.st [.int .i64, .int .i64, .arr 6 (.arr 6 (.int .i64))]], [.v], [.int .i64], [.n], pg13, fg13⟩)] := (specsOk_cons Try.func13 (by kernel_rfl) (by kernel_rfl) hs13 specsOk_nil)
  refine runs_of_o tabOk Try.func8 rfl (Nat.le_of_ble_eq_true rfl) rfl ?_
  rintro E ⟨(m_1 : (Int × Int × List (List Int) × Unit)), ⟨⟩⟩ y hP H hw
  obtain ⟨z, H1, rfl⟩ := map_out H
  replace H : mat_Did m_1 = some z := H1
  clear hw H1
  unfold mat_Did at H
  refine tr_keep [0] (σ' := mkSl 34 0 [(0, .val (.st [.int .i64, .int .i64, .arr 6 (.arr 6 (.int .i64))]) .n m_1)]) rfl ?_
  refine tr_seq ?_
  refine tr_rg hP tabOk hsp fun A hA M hM => ?_
  cbv
  refine hM _ ?_
  refine tr_seq ?_
  refine tr_seq ?_
  refine tr_keepL [1, 2] (fun t2_2 : List (List Int) => mkSl 34 0 [(1, .val (.box (.st [.int .i64, .int .i64, .arr 6 (.arr 6 (.int .i64))])) (.b .n) m_1), (2, .val (.box (.st [.int .i64, .int .i64, .arr 6 (.arr 6 (.int .i64))])) (.b .n) ((0 : Int), (0 : Int), t2_2, ()))]) H (by subst hA; rfl) (fun t2_2 H => ?_)
  clear hM hA M A
  refine tr_rg hP tabOk hsp fun A hA M hM => ?_
  cbv
  obtain ⟨r_3, hr1, H⟩ := bind_out H
  obtain ⟨pq1, eq1⟩ := hc13 hr1
  refine ⟨by subst hA; subst eq1; exact pq1, hM _ ?_⟩
  refine tr_seq ?_
  refine tr_keep [1, 2, 4] (σ' := mkSl 34 0 [(1, .val (.box (.st [.int .i64, .int .i64, .arr 6 (.arr 6 (.int .i64))])) (.b .n) m_1), (2, .val (.box (.st [.int .i64, .int .i64, .arr 6 (.arr 6 (.int .i64))])) (.b .n) ((0 : Int), (0 : Int), t2_2, ())), (4, .val (.int .i64) .n r_3)]) (by subst hA; subst eq1; rfl) ?_
  clear pq1 eq1 hr1 hM hA M A
  refine tr_rg hP tabOk hsp fun A hA M hM => ?_
  cbv
  refine hM _ ?_
  refine tr_keep [1, 2, 4, 8] (σ' := mkSl 34 0 [(1, .val (.box (.st [.int .i64, .int .i64, .arr 6 (.arr 6 (.int .i64))])) (.b .n) m_1), (2, .val (.box (.st [.int .i64, .int .i64, .arr 6 (.arr 6 (.int .i64))])) (.b .n) ((0 : Int), (0 : Int), t2_2, ())), (4, .val (.int .i64) .n r_3), (8, .val (.bool) .n (r_3 != (0 : Int)))]) (by subst hA; rfl) ?_
  clear hM hA M A
  refine tr_cond rfl (fun hc => ?_) (fun hc => ?_)
  · replace H := if_t H hc
    refine tr_keep [1, 2, 4] (σ' := mkSl 34 0 [(1, .val (.box (.st [.int .i64, .int .i64, .arr 6 (.arr 6 (.int .i64))])) (.b .n) m_1), (2, .val (.box (.st [.int .i64, .int .i64, .arr 6 (.arr 6 (.int .i64))])) (.b .n) ((0 : Int), (0 : Int), t2_2, ())), (4, .val (.int .i64) .n r_3)]) rfl ?_
    refine tr_seq ?_
    refine tr_rg hP tabOk hsp fun A hA M hM => ?_
    cbv
    refine hM _ ?_
    refine tr_ret ?_
    have hr := Option.some.inj H
    subst hr
    subst hA
    exact rfl
  · replace H := if_f H hc
    refine tr_keep [1, 2, 4] (σ' := mkSl 34 0 [(1, .val (.box (.st [.int .i64, .int .i64, .arr 6 (.arr 6 (.int .i64))])) (.b .n) m_1), (2, .val (.box (.st [.int .i64, .int .i64, .arr 6 (.arr 6 (.int .i64))])) (.b .n) ((0 : Int), (0 : Int), t2_2, ())), (4, .val (.int .i64) .n r_3)]) rfl ?_
    refine tr_skip ?_
    refine tr_seq ?_
    refine tr_seq ?_
    refine tr_rg hP tabOk hsp fun A hA M hM => ?_
    cbv
    obtain ⟨ob1, H⟩ := ck_out H
    obtain ⟨ob2, H⟩ := ck_out H
    refine ⟨by subst hA; exact ob1, by subst hA; exact ob2, hM _ ?_⟩
    refine tr_keep [1, 2, 19] (σ' := mkSl 34 0 [(1, .val (.box (.st [.int .i64, .int .i64, .arr 6 (.arr 6 (.int .i64))])) (.b .n) m_1), (2, .val (.box (.st [.int .i64, .int .i64, .arr 6 (.arr 6 (.int .i64))])) (.b .n) ((0 : Int), (0 : Int), t2_2, ())), (19, .val (.bool) .n (((m_1.2.2.1.getD m_1.2.1.toNat (List.replicate 6 (0 : Int))).getD m_1.2.1.toNat (0 : Int)) == (16777215 : Int)))]) (by subst hA; rfl) ?_
    clear ob2 ob1 hM hA M A
    refine tr_cond rfl (fun hc => ?_) (fun hc => ?_)
    · replace H := if_t H hc
      refine tr_keep [1, 2] (σ' := mkSl 34 0 [(1, .val (.box (.st [.int .i64, .int .i64, .arr 6 (.arr 6 (.int .i64))])) (.b .n) m_1), (2, .val (.box (.st [.int .i64, .int .i64, .arr 6 (.arr 6 (.int .i64))])) (.b .n) ((0 : Int), (0 : Int), t2_2, ()))]) rfl ?_
      refine tr_seq ?_
      refine tr_rg hP tabOk hsp fun A hA M hM => ?_
      cbv
      refine hM _ ?_
      refine tr_ret ?_
      have hr := Option.some.inj H
      subst hr
      subst hA
      exact rfl
    · replace H := if_f H hc
      refine tr_keep [1, 2] (σ' := mkSl 34 0 [(1, .val (.box (.st [.int .i64, .int .i64, .arr 6 (.arr 6 (.int .i64))])) (.b .n) m_1), (2, .val (.box (.st [.int .i64, .int .i64, .arr 6 (.arr 6 (.int .i64))])) (.b .n) ((0 : Int), (0 : Int), t2_2, ()))]) rfl ?_
      refine tr_skip ?_
      refine tr_seq ?_
      refine tr_rg hP tabOk hsp fun A hA M hM => ?_
      cbv
      obtain ⟨ob1, H⟩ := ck_out H
      obtain ⟨ob2, H⟩ := ck_out H
      obtain ⟨ob3, H⟩ := ck_out H
      obtain ⟨ob4, H⟩ := ck_out H
      refine ⟨by subst hA; exact ob1, by subst hA; exact ob2, by subst hA; exact ob3, by subst hA; exact ob4, hM _ ?_⟩
      refine tr_seq ?_
      refine tr_keepL [1, 2] (fun m_4 : List (List Int) => mkSl 34 0 [(1, .val (.box (.st [.int .i64, .int .i64, .arr 6 (.arr 6 (.int .i64))])) (.b .n) (m_1.1, m_1.2.1, m_4, ())), (2, .val (.box (.st [.int .i64, .int .i64, .arr 6 (.arr 6 (.int .i64))])) (.b .n) ((0 : Int), (0 : Int), t2_2, ()))]) H (by subst hA; rfl) (fun m_4 H => ?_)
      clear ob4 ob3 ob2 ob1 hM hA M A
      refine tr_rg hP tabOk hsp fun A hA M hM => ?_
      cbv
      refine hM _ ?_
      refine tr_ret ?_
      have hr := Option.some.inj H
      subst hr
      subst hA
      exact rfl
theorem mat_Did_sp : ∃ (pg : PT.denL [.st [.int .i64, .int .i64, .arr 6 (.arr 6 (.int .i64))]] → Prop) (fg : PT.denL [.st [.int .i64, .int .i64, .arr 6 (.arr 6 (.int .i64))]] → PT.denL [.st [.int .i64, .int .i64, .arr 6 (.arr 6 (.int .i64))], .int .i64]), SpecRuns Try.prog 8 ⟨[.st [.int .i64, .int .i64, .arr 6 (.arr 6 (.int .i64))]], [.v], [.st [.int .i64, .int .i64, .arr 6 (.arr 6 (.int .i64))], .int .i64], [.n, .n], pg, fg⟩ ∧ (∀ {a1 : (Int × Int × List (List Int) × Unit)} {y : (Int × Int × List (List Int) × Unit) × Int}, mat_Did a1 = some y → pg (a1, ()) ∧ y = ((fg (a1, ())).1, (fg (a1, ())).2.1)) ∧ (∀ {a1 : (Int × Int × List (List Int) × Unit)}, (mat_Did a1).isSome = true → pg (a1, ())) ∧ ∀ {a1 : (Int × Int × List (List Int) × Unit)}, (mat_Did a1).getD (((0 : Int), (0 : Int), List.replicate 6 (List.replicate 6 (0 : Int)), ()), (0 : Int)) = ((fg (a1, ())).1, (fg (a1, ())).2.1) := by
  obtain ⟨pg, fg, h, hc, hi, hd⟩ := spec_hide mat_Did_runs
  refine ⟨pg, fg, h, ?_, ?_, ?_⟩
  · intro a1 y e
    obtain ⟨h1, h2⟩ := hc (a1, ()) (y.1, y.2, ()) (congrArg (Option.map fun r => (r.1, r.2, ())) e)
    exact ⟨h1, by first | (rw [h2]; done) | (rw [h2]; rfl)⟩
  · intro a1
    intro e
    exact hi (a1, ()) (map_isSome e)
  · intro a1
    rw [hd (a1, ())]
    cases mat_Did a1 <;> rfl
end Go.Proofs.Ytikbileeohddjaa.Mt
