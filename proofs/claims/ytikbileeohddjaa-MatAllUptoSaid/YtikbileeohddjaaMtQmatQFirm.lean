/- Functions of the program as functions that may fail, and that the code computes them (printed). Each theorem bears its conditions itself. -/
import Derived.Test.YtikbileeohddjaaMtDefs
import Derived.Test.YtikbileeohddjaaMtTab
import Derived.Test.YtikbileeohddjaaMtQmatQCheck
import Derived.Test.YtikbileeohddjaaMtQvectQMin
open Go Go.Proofs.Ytikbileeohddjaa.Sy Go.Proofs
set_option maxHeartbeats 4000000
set_option maxRecDepth 100000
set_option cbv.maxSteps 10000000
set_option linter.unusedVariables false
set_option linter.unusedSimpArgs false
namespace Go.Proofs.Ytikbileeohddjaa.Mt
theorem mat_Firm_runs : SpecRuns Try.prog 9 (oSpec [.st [.int .i64, .int .i64, .arr 6 (.arr 6 (.int .i64))]] [.v] [.arr 6 (.int .i64), .int .i64] [.n, .n] fun x => (mat_Firm x.1).map fun r => (r.1, r.2, ())) := by
  obtain ⟨pg13, fg13, hs13, hc13, hi13, hd13⟩ := mat_Check_sp
  obtain ⟨pg16, fg16, hs16, hc16, hi16, hd16⟩ := vect_Min_sp
  have hsp : SpecsOk Try.prog [(13, ⟨[.st [.int .i64, .int .i64, .arr 6 (.arr 6 (.int .i64))]], [.v], [.int .i64], [.n], pg13, fg13⟩), (16, ⟨[.arr 6 (.int .i64), .arr 6 (.int .i64)], [.v, .v], [.arr 6 (.int .i64)], [.n], pg16, fg16⟩)] := (specsOk_cons Try.func13 (by kernel_rfl) (by kernel_rfl) hs13 (specsOk_cons Try.func16 (by kernel_rfl) (by kernel_rfl) hs16 specsOk_nil))
  refine runs_of_o tabOk Try.func9 rfl (Nat.le_of_ble_eq_true rfl) rfl ?_
  rintro E ⟨(m_1 : (Int × Int × List (List Int) × Unit)), ⟨⟩⟩ y hP H hw
  obtain ⟨z, H1, rfl⟩ := map_out H
  replace H : mat_Firm m_1 = some z := H1
  clear hw H1
  unfold mat_Firm at H
  refine tr_keep [0] (σ' := mkSl 31 0 [(0, .val (.st [.int .i64, .int .i64, .arr 6 (.arr 6 (.int .i64))]) .n m_1)]) rfl ?_
  refine tr_seq ?_
  refine tr_rg hP tabOk hsp fun A hA M hM => ?_
  cbv
  refine hM _ ?_
  refine tr_seq ?_
  refine tr_seq ?_
  refine tr_keepL [1, 2] (fun t2_2 : List Int => mkSl 31 0 [(1, .val (.box (.st [.int .i64, .int .i64, .arr 6 (.arr 6 (.int .i64))])) (.b .n) m_1), (2, .val (.box (.arr 6 (.int .i64))) (.b .n) t2_2)]) H (by subst hA; rfl) (fun t2_2 H => ?_)
  clear hM hA M A
  refine tr_rg hP tabOk hsp fun A hA M hM => ?_
  cbv
  obtain ⟨r_3, hr1, H⟩ := bind_out H
  obtain ⟨pq1, eq1⟩ := hc13 hr1
  refine ⟨by subst hA; subst eq1; exact pq1, hM _ ?_⟩
  refine tr_seq ?_
  refine tr_keep [1, 2, 4] (σ' := mkSl 31 0 [(1, .val (.box (.st [.int .i64, .int .i64, .arr 6 (.arr 6 (.int .i64))])) (.b .n) m_1), (2, .val (.box (.arr 6 (.int .i64))) (.b .n) t2_2), (4, .val (.int .i64) .n r_3)]) (by subst hA; subst eq1; rfl) ?_
  clear pq1 eq1 hr1 hM hA M A
  refine tr_rg hP tabOk hsp fun A hA M hM => ?_
  cbv
  refine hM _ ?_
  refine tr_keep [1, 2, 4, 10] (σ' := mkSl 31 0 [(1, .val (.box (.st [.int .i64, .int .i64, .arr 6 (.arr 6 (.int .i64))])) (.b .n) m_1), (2, .val (.box (.arr 6 (.int .i64))) (.b .n) t2_2), (4, .val (.int .i64) .n r_3), (10, .val (.bool) .n (r_3 != (0 : Int)))]) (by subst hA; rfl) ?_
  clear hM hA M A
  refine tr_cond rfl (fun hc => ?_) (fun hc => ?_)
  · replace H := if_t H hc
    refine tr_keep [1, 2, 4] (σ' := mkSl 31 0 [(1, .val (.box (.st [.int .i64, .int .i64, .arr 6 (.arr 6 (.int .i64))])) (.b .n) m_1), (2, .val (.box (.arr 6 (.int .i64))) (.b .n) t2_2), (4, .val (.int .i64) .n r_3)]) rfl ?_
    refine tr_seq ?_
    refine tr_rg hP tabOk hsp fun A hA M hM => ?_
    cbv
    refine hM _ ?_
    refine tr_ret ?_
    have hr := Option.some.inj H
    subst hr
    subst hA
    exact rfl
  · replace H := if_f H hc
    refine tr_keep [1, 2, 4] (σ' := mkSl 31 0 [(1, .val (.box (.st [.int .i64, .int .i64, .arr 6 (.arr 6 (.int .i64))])) (.b .n) m_1), (2, .val (.box (.arr 6 (.int .i64))) (.b .n) t2_2), (4, .val (.int .i64) .n r_3)]) rfl ?_
    refine tr_skip ?_
    refine tr_seq ?_
    refine tr_rg hP tabOk hsp fun A hA M hM => ?_
    cbv
    obtain ⟨ob1, H⟩ := ck_out H
    refine ⟨by subst hA; exact ob1, hM _ ?_⟩
    refine tr_seq ?_
    refine tr_seq ?_
    refine tr_keepL [1, 2, 5] (fun out_4 : List Int => mkSl 31 0 [(1, .val (.box (.st [.int .i64, .int .i64, .arr 6 (.arr 6 (.int .i64))])) (.b .n) m_1), (2, .val (.box (.arr 6 (.int .i64))) (.b .n) t2_2), (5, .val (.box (.arr 6 (.int .i64))) (.b .n) out_4)]) H (by subst hA; rfl) (fun out_4 H => ?_)
    clear ob1 hM hA M A
    refine tr_rg hP tabOk hsp fun A hA M hM => ?_
    cbv
    refine hM _ ?_
    refine tr_block ?_
    refine tr_keep [1, 2, 5, 19, 20] (σ' := mkSl 31 0 [(1, .val (.box (.st [.int .i64, .int .i64, .arr 6 (.arr 6 (.int .i64))])) (.b .n) m_1), (2, .val (.box (.arr 6 (.int .i64))) (.b .n) t2_2), (5, .val (.box (.arr 6 (.int .i64))) (.b .n) out_4), (19, .val (.int .i64) .n m_1.1), (20, .val (.int .i64) .n (0 : Int))]) (by subst hA; rfl) ?_
    clear hM hA M A
    obtain ⟨q_8, hq, H⟩ := bind_out H
    refine tr_loopB 0 (fun x : List Int × Int => mat_Firm_L1 m_1 x.1 x.2) (fun x : List Int × Int => mkSl 31 0 [(1, .val (.box (.st [.int .i64, .int .i64, .arr 6 (.arr 6 (.int .i64))])) (.b .n) m_1), (2, .val (.box (.arr 6 (.int .i64))) (.b .n) t2_2), (5, .val (.box (.arr 6 (.int .i64))) (.b .n) x.1), (19, .val (.int .i64) .n m_1.1), (20, .val (.int .i64) .n x.2)]) [1, 2, 5, 19, 20] (fun q_8 : List Int => mkSl 31 0 [(2, .val (.box (.arr 6 (.int .i64))) (.b .n) t2_2), (5, .val (.box (.arr 6 (.int .i64))) (.b .n) q_8)]) [2, 5] hq rfl (fun σ' h => ?_) (fun x r1 H => ?_)
    · refine tr_keep [2, 5] h ?_
      refine tr_seq ?_
      refine tr_rg hP tabOk hsp fun A hA M hM => ?_
      cbv
      refine hM _ ?_
      refine tr_ret ?_
      have hr := Option.some.inj H
      subst hr
      subst hA
      exact rfl
    · obtain ⟨out_5, t20_6⟩ := x
      replace H : mat_Firm_L1 m_1 out_5 t20_6 = some r1 := H
      unfold mat_Firm_L1 at H
      refine tr_seq ?_
      refine tr_rg hP tabOk hsp fun A hA M hM => ?_
      cbv
      refine hM _ ?_
      refine tr_seq ?_
      refine tr_keep [1, 2, 5, 19, 20, 21] (σ' := mkSl 31 0 [(1, .val (.box (.st [.int .i64, .int .i64, .arr 6 (.arr 6 (.int .i64))])) (.b .n) m_1), (2, .val (.box (.arr 6 (.int .i64))) (.b .n) t2_2), (5, .val (.box (.arr 6 (.int .i64))) (.b .n) out_5), (19, .val (.int .i64) .n m_1.1), (20, .val (.int .i64) .n t20_6), (21, .val (.bool) .n (decide (t20_6 < m_1.1)))]) (by subst hA; rfl) ?_
      clear hM hA M A
      refine tr_cond rfl (fun hc => ?_) (fun hc => ?_)
      · replace H := if_t H hc
        refine tr_keep [1, 2, 5, 19, 20] (σ' := mkSl 31 0 [(1, .val (.box (.st [.int .i64, .int .i64, .arr 6 (.arr 6 (.int .i64))])) (.b .n) m_1), (2, .val (.box (.arr 6 (.int .i64))) (.b .n) t2_2), (5, .val (.box (.arr 6 (.int .i64))) (.b .n) out_5), (19, .val (.int .i64) .n m_1.1), (20, .val (.int .i64) .n t20_6)]) rfl ?_
        refine tr_skip ?_
        refine tr_seq ?_
        refine tr_block ?_
        refine tr_seq ?_
        refine tr_rg hP tabOk hsp fun A hA M hM => ?_
        cbv
        refine hM _ ?_
        refine tr_keep [1, 2, 5, 6, 19, 20] (σ' := mkSl 31 0 [(1, .val (.box (.st [.int .i64, .int .i64, .arr 6 (.arr 6 (.int .i64))])) (.b .n) m_1), (2, .val (.box (.arr 6 (.int .i64))) (.b .n) t2_2), (5, .val (.box (.arr 6 (.int .i64))) (.b .n) out_5), (6, .val (.int .i64) .n t20_6), (19, .val (.int .i64) .n m_1.1), (20, .val (.int .i64) .n t20_6)]) (by subst hA; rfl) ?_
        clear hM hA M A
        refine tr_rg hP tabOk hsp fun A hA M hM => ?_
        cbv
        obtain ⟨ob1, H⟩ := ck_out H
        obtain ⟨r_9, hr2, H⟩ := bind_out H
        obtain ⟨pq2, eq2⟩ := hc16 hr2
        refine ⟨by subst hA; exact ob1, by subst hA; subst eq2; exact pq2, hM _ ?_⟩
        refine tr_keep [1, 2, 5, 19, 20] (σ' := mkSl 31 0 [(1, .val (.box (.st [.int .i64, .int .i64, .arr 6 (.arr 6 (.int .i64))])) (.b .n) m_1), (2, .val (.box (.arr 6 (.int .i64))) (.b .n) t2_2), (5, .val (.box (.arr 6 (.int .i64))) (.b .n) r_9), (19, .val (.int .i64) .n m_1.1), (20, .val (.int .i64) .n t20_6)]) (by subst hA; subst eq2; rfl) ?_
        clear pq2 eq2 hr2 ob1 hM hA M A
        refine tr_rg hP tabOk hsp fun A hA M hM => ?_
        cbv
        refine hM _ ?_
        exact Exists.intro _ (And.intro (Option.some.inj H).symm (by subst hA; rfl))
      · replace H := if_f H hc
        refine tr_keep [1, 2, 5, 19, 20] (σ' := mkSl 31 0 [(1, .val (.box (.st [.int .i64, .int .i64, .arr 6 (.arr 6 (.int .i64))])) (.b .n) m_1), (2, .val (.box (.arr 6 (.int .i64))) (.b .n) t2_2), (5, .val (.box (.arr 6 (.int .i64))) (.b .n) out_5), (19, .val (.int .i64) .n m_1.1), (20, .val (.int .i64) .n t20_6)]) rfl ?_
        refine tr_exit ?_
        exact And.intro rfl (Exists.intro _ (And.intro (Option.some.inj H).symm (by rfl)))
theorem mat_Firm_sp : ∃ (pg : PT.denL [.st [.int .i64, .int .i64, .arr 6 (.arr 6 (.int .i64))]] → Prop) (fg : PT.denL [.st [.int .i64, .int .i64, .arr 6 (.arr 6 (.int .i64))]] → PT.denL [.arr 6 (.int .i64), .int .i64]), SpecRuns Try.prog 9 ⟨[.st [.int .i64, .int .i64, .arr 6 (.arr 6 (.int .i64))]], [.v], [.arr 6 (.int .i64), .int .i64], [.n, .n], pg, fg⟩ ∧ (∀ {a1 : (Int × Int × List (List Int) × Unit)} {y : List Int × Int}, mat_Firm a1 = some y → pg (a1, ()) ∧ y = ((fg (a1, ())).1, (fg (a1, ())).2.1)) ∧ (∀ {a1 : (Int × Int × List (List Int) × Unit)}, (mat_Firm a1).isSome = true → pg (a1, ())) ∧ ∀ {a1 : (Int × Int × List (List Int) × Unit)}, (mat_Firm a1).getD (List.replicate 6 (0 : Int), (0 : Int)) = ((fg (a1, ())).1, (fg (a1, ())).2.1) := by
  obtain ⟨pg, fg, h, hc, hi, hd⟩ := spec_hide mat_Firm_runs
  refine ⟨pg, fg, h, ?_, ?_, ?_⟩
  · intro a1 y e
    obtain ⟨h1, h2⟩ := hc (a1, ()) (y.1, y.2, ()) (congrArg (Option.map fun r => (r.1, r.2, ())) e)
    exact ⟨h1, by first | (rw [h2]; done) | (rw [h2]; rfl)⟩
  · intro a1
    intro e
    exact hi (a1, ()) (map_isSome e)
  · intro a1
    rw [hd (a1, ())]
    cases mat_Firm a1 <;> rfl
end Go.Proofs.Ytikbileeohddjaa.Mt
