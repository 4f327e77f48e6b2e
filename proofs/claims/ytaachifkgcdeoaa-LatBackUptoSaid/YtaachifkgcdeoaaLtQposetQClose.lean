/- Functions of the program as functions that may fail, and that the code computes them (printed). Each theorem bears its conditions itself. -/
import Derived.Test.YtaachifkgcdeoaaLtDefs
import Derived.Test.YtaachifkgcdeoaaLtTab
import Derived.Test.YtaachifkgcdeoaaLtQposetQCheck
import Derived.Test.YtaachifkgcdeoaaLtQposetQclosed
import Derived.Test.YtaachifkgcdeoaaLtQposetQpairs
open Go Go.Proofs.Ytaachifkgcdeoaa.Sy Go.Proofs
set_option maxHeartbeats 4000000
set_option maxRecDepth 100000
set_option cbv.maxSteps 10000000
set_option linter.unusedVariables false
set_option linter.unusedSimpArgs false
namespace Go.Proofs.Ytaachifkgcdeoaa.Lt
theorem poset_Close_runs : SpecRuns Try.prog 20 (oSpec [.st [.int .i64, .list (.st [.int .i64, .int .i64])]] [.v] [.list (.st [.int .i64, .int .i64]), .int .i64] [.l .n, .n] fun x => (poset_Close x.1).map fun r => (r.1, r.2, ())) := by
  obtain ⟨pg21, fg21, hs21, hc21, hi21, hd21⟩ := poset_Check_sp
  obtain ⟨pg23, fg23, hs23, hc23, hi23, hd23⟩ := poset_closed_sp
  obtain ⟨pg22, fg22, hs22, hc22, hi22, hd22⟩ := poset_pairs_sp
  have hsp : SpecsOk Try.prog [(21, ⟨[.st [.int .i64, .list (.st [.int .i64, .int .i64])]], [.v], [.int .i64], [.n], pg21, fg21⟩), (23, ⟨[.st [.int .i64, .list (.st [.int .i64, .int .i64])]], [.v], [.box (.arr 20 (.arr 20 (.bool)))], [.b .n], pg23, fg23⟩), (22, ⟨[.arr 20 (.arr 20 (.bool)), .int .i64], [.p, .v], [.list (.st [.int .i64, .int .i64])], [.l .n], pg22, fg22⟩)] := (specsOk_cons Try.func21 (by kernel_rfl) (by kernel_rfl) hs21 (specsOk_cons Try.func23 (by kernel_rfl) (by kernel_rfl) hs23 (specsOk_cons Try.func22 (by kernel_rfl) (by kernel_rfl) hs22 specsOk_nil)))
  refine runs_of_o tabOk Try.func20 rfl (Nat.le_of_ble_eq_true rfl) rfl ?_
  rintro E ⟨(p_1 : (Int × List ((Int × Int × Unit)) × Unit)), ⟨⟩⟩ y hP H hw
  obtain ⟨z, H1, rfl⟩ := map_out H
  replace H : poset_Close p_1 = some z := H1
  clear hw H1
  unfold poset_Close at H
  refine tr_keep [0] (σ' := mkSl 15 0 [(0, .val (.st [.int .i64, .list (.st [.int .i64, .int .i64])]) .n p_1)]) rfl ?_
  refine tr_seq ?_
  refine tr_rg hP tabOk hsp fun A hA M hM => ?_
  cbv
  refine hM _ ?_
  refine tr_seq ?_
  refine tr_seq ?_
  refine tr_keep [1, 2] (σ' := mkSl 15 0 [(1, .val (.box (.st [.int .i64, .list (.st [.int .i64, .int .i64])])) (.b .n) p_1), (2, .val (.list (.st [.int .i64, .int .i64])) (.l .n) ([] : List ((Int × Int × Unit))))]) (by subst hA; rfl) ?_
  clear hM hA M A
  refine tr_rg hP tabOk hsp fun A hA M hM => ?_
  cbv
  obtain ⟨r_2, hr1, H⟩ := bind_out H
  obtain ⟨pq1, eq1⟩ := hc21 hr1
  refine ⟨by subst hA; subst eq1; exact pq1, hM _ ?_⟩
  refine tr_seq ?_
  refine tr_keep [1, 2, 4] (σ' := mkSl 15 0 [(1, .val (.box (.st [.int .i64, .list (.st [.int .i64, .int .i64])])) (.b .n) p_1), (2, .val (.list (.st [.int .i64, .int .i64])) (.l .n) ([] : List ((Int × Int × Unit)))), (4, .val (.int .i64) .n r_2)]) (by subst hA; subst eq1; rfl) ?_
  clear pq1 eq1 hr1 hM hA M A
  refine tr_rg hP tabOk hsp fun A hA M hM => ?_
  cbv
  refine hM _ ?_
  refine tr_keep [1, 2, 4, 8] (σ' := mkSl 15 0 [(1, .val (.box (.st [.int .i64, .list (.st [.int .i64, .int .i64])])) (.b .n) p_1), (2, .val (.list (.st [.int .i64, .int .i64])) (.l .n) ([] : List ((Int × Int × Unit)))), (4, .val (.int .i64) .n r_2), (8, .val (.bool) .n (r_2 != (0 : Int)))]) (by subst hA; rfl) ?_
  clear hM hA M A
  refine tr_cond rfl (fun hc => ?_) (fun hc => ?_)
  · replace H := if_t H hc
    refine tr_keep [1, 2, 4] (σ' := mkSl 15 0 [(1, .val (.box (.st [.int .i64, .list (.st [.int .i64, .int .i64])])) (.b .n) p_1), (2, .val (.list (.st [.int .i64, .int .i64])) (.l .n) ([] : List ((Int × Int × Unit)))), (4, .val (.int .i64) .n r_2)]) rfl ?_
    refine tr_seq ?_
    refine tr_rg hP tabOk hsp fun A hA M hM => ?_
    cbv
    refine hM _ ?_
    refine tr_ret ?_
    have hr := Option.some.inj H
    subst hr
    subst hA
    exact rfl
  · replace H := if_f H hc
    refine tr_keep [1, 2, 4] (σ' := mkSl 15 0 [(1, .val (.box (.st [.int .i64, .list (.st [.int .i64, .int .i64])])) (.b .n) p_1), (2, .val (.list (.st [.int .i64, .int .i64])) (.l .n) ([] : List ((Int × Int × Unit)))), (4, .val (.int .i64) .n r_2)]) rfl ?_
    refine tr_skip ?_
    refine tr_seq ?_
    refine tr_rg hP tabOk hsp fun A hA M hM => ?_
    cbv
    obtain ⟨r_3, hr1, H⟩ := bind_out H
    obtain ⟨pq1, eq1⟩ := hc23 hr1
    obtain ⟨r_4, hr2, H⟩ := bind_out H
    obtain ⟨pq2, eq2⟩ := hc22 hr2
    refine ⟨by subst hA; subst eq1; exact pq1, by subst hA; subst eq1; subst eq2; exact pq2, hM _ ?_⟩
    refine tr_ret ?_
    have hr := Option.some.inj H
    subst hr
    subst hA
    subst eq1
    subst eq2
    exact rfl
theorem poset_Close_sp : ∃ (pg : PT.denL [.st [.int .i64, .list (.st [.int .i64, .int .i64])]] → Prop) (fg : PT.denL [.st [.int .i64, .list (.st [.int .i64, .int .i64])]] → PT.denL [.list (.st [.int .i64, .int .i64]), .int .i64]), SpecRuns Try.prog 20 ⟨[.st [.int .i64, .list (.st [.int .i64, .int .i64])]], [.v], [.list (.st [.int .i64, .int .i64]), .int .i64], [.l .n, .n], pg, fg⟩ ∧ (∀ {a1 : (Int × List ((Int × Int × Unit)) × Unit)} {y : List ((Int × Int × Unit)) × Int}, poset_Close a1 = some y → pg (a1, ()) ∧ y = ((fg (a1, ())).1, (fg (a1, ())).2.1)) ∧ (∀ {a1 : (Int × List ((Int × Int × Unit)) × Unit)}, (poset_Close a1).isSome = true → pg (a1, ())) ∧ ∀ {a1 : (Int × List ((Int × Int × Unit)) × Unit)}, (poset_Close a1).getD (([] : List ((Int × Int × Unit))), (0 : Int)) = ((fg (a1, ())).1, (fg (a1, ())).2.1) := by
  obtain ⟨pg, fg, h, hc, hi, hd⟩ := spec_hide poset_Close_runs
  refine ⟨pg, fg, h, ?_, ?_, ?_⟩
  · intro a1 y e
    obtain ⟨h1, h2⟩ := hc (a1, ()) (y.1, y.2, ()) (congrArg (Option.map fun r => (r.1, r.2, ())) e)
    exact ⟨h1, by first | (rw [h2]; done) | (rw [h2]; rfl)⟩
  · intro a1
    intro e
    exact hi (a1, ()) (map_isSome e)
  · intro a1
    rw [hd (a1, ())]
    cases poset_Close a1 <;> rfl
end Go.Proofs.Ytaachifkgcdeoaa.Lt
