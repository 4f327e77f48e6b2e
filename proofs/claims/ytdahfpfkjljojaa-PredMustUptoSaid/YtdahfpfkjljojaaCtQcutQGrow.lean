/- Functions of the program as functions that may fail, and that the code computes them (printed). Each theorem bears its conditions itself. -/
import Derived.Test.YtdahfpfkjljojaaCtDefs
import Derived.Test.YtdahfpfkjljojaaCtTab
import Derived.Test.YtdahfpfkjljojaaCtQcutQCheck
import Derived.Test.YtdahfpfkjljojaaCtQcutQgrow
open Go Go.Proofs.Ytdahfpfkjljojaa.Sy Go.Proofs
set_option maxHeartbeats 4000000
set_option maxRecDepth 100000
set_option cbv.maxSteps 10000000
set_option linter.unusedVariables false
set_option linter.unusedSimpArgs false
namespace Go.Proofs.Ytdahfpfkjljojaa.Ct
theorem cut_Grow_runs : SpecRuns Try.prog 12 (oSpec [.list (.st [.int .i64, .int .i64, .int .i64]), .arr 6 (.int .i64)] [.v, .v] [.arr 6 (.int .i64), .int .i64] [.n, .n] fun x => (cut_Grow x.1 x.2.1).map fun r => (r.1, r.2, ())) := by
  obtain ⟨pg34, fg34, hs34, hc34, hi34, hd34⟩ := cut_Check_sp
  obtain ⟨pg35, fg35, hs35, hc35, hi35, hd35⟩ := cut_grow_sp
  have hsp : SpecsOk Try.prog [(34, ⟨[.list (.st [.int .i64, .int .i64, .int .i64]), .arr 6 (.int .i64)], [.v, .v], [.int .i64], [.n], pg34, fg34⟩), (35, ⟨[.list (.st [.int .i64, .int .i64, .int .i64]), .arr 6 (.int .i64)], [.v, .v], [.arr 6 (.int .i64)], [.n], pg35, fg35⟩)] := (specsOk_cons Try.func34 (by kernel_rfl) (by kernel_rfl) hs34 (specsOk_cons Try.func35 (by kernel_rfl) (by kernel_rfl) hs35 specsOk_nil))
  refine runs_of_o tabOk Try.func12 rfl (Nat.le_of_ble_eq_true rfl) rfl ?_
  rintro E ⟨(h_1 : List ((Int × Int × Int × Unit))), (c_2 : List Int), ⟨⟩⟩ y hP H hw
  obtain ⟨z, H1, rfl⟩ := map_out H
  replace H : cut_Grow h_1 c_2 = some z := H1
  clear hw H1
  unfold cut_Grow at H
  refine tr_keep [0, 1] (σ' := mkSl 17 0 [(0, .val (.list (.st [.int .i64, .int .i64, .int .i64])) .n h_1), (1, .val (.arr 6 (.int .i64)) .n c_2)]) rfl ?_
  refine tr_seq ?_
  refine tr_rg hP tabOk hsp fun A hA M hM => ?_
  cbv
  refine hM _ ?_
  refine tr_seq ?_
  refine tr_seq ?_
  refine tr_keepL [0, 3, 4] (fun t4_3 : List Int => mkSl 17 0 [(0, .val (.list (.st [.int .i64, .int .i64, .int .i64])) .n h_1), (3, .val (.box (.arr 6 (.int .i64))) (.b .n) c_2), (4, .val (.box (.arr 6 (.int .i64))) (.b .n) t4_3)]) H (by subst hA; rfl) (fun t4_3 H => ?_)
  clear hM hA M A
  refine tr_rg hP tabOk hsp fun A hA M hM => ?_
  cbv
  obtain ⟨r_4, hr1, H⟩ := bind_out H
  obtain ⟨pq1, eq1⟩ := hc34 hr1
  refine ⟨by subst hA; subst eq1; exact pq1, hM _ ?_⟩
  refine tr_seq ?_
  refine tr_keep [0, 3, 4, 6] (σ' := mkSl 17 0 [(0, .val (.list (.st [.int .i64, .int .i64, .int .i64])) .n h_1), (3, .val (.box (.arr 6 (.int .i64))) (.b .n) c_2), (4, .val (.box (.arr 6 (.int .i64))) (.b .n) t4_3), (6, .val (.int .i64) .n r_4)]) (by subst hA; subst eq1; rfl) ?_
  clear pq1 eq1 hr1 hM hA M A
  refine tr_rg hP tabOk hsp fun A hA M hM => ?_
  cbv
  refine hM _ ?_
  refine tr_keep [0, 3, 4, 6, 11] (σ' := mkSl 17 0 [(0, .val (.list (.st [.int .i64, .int .i64, .int .i64])) .n h_1), (3, .val (.box (.arr 6 (.int .i64))) (.b .n) c_2), (4, .val (.box (.arr 6 (.int .i64))) (.b .n) t4_3), (6, .val (.int .i64) .n r_4), (11, .val (.bool) .n (r_4 != (0 : Int)))]) (by subst hA; rfl) ?_
  clear hM hA M A
  refine tr_cond rfl (fun hc => ?_) (fun hc => ?_)
  · replace H := if_t H hc
    refine tr_keep [0, 3, 4, 6] (σ' := mkSl 17 0 [(0, .val (.list (.st [.int .i64, .int .i64, .int .i64])) .n h_1), (3, .val (.box (.arr 6 (.int .i64))) (.b .n) c_2), (4, .val (.box (.arr 6 (.int .i64))) (.b .n) t4_3), (6, .val (.int .i64) .n r_4)]) rfl ?_
    refine tr_seq ?_
    refine tr_rg hP tabOk hsp fun A hA M hM => ?_
    cbv
    refine hM _ ?_
    refine tr_ret ?_
    have hr := Option.some.inj H
    subst hr
    subst hA
    exact rfl
  · replace H := if_f H hc
    refine tr_keep [0, 3, 4, 6] (σ' := mkSl 17 0 [(0, .val (.list (.st [.int .i64, .int .i64, .int .i64])) .n h_1), (3, .val (.box (.arr 6 (.int .i64))) (.b .n) c_2), (4, .val (.box (.arr 6 (.int .i64))) (.b .n) t4_3), (6, .val (.int .i64) .n r_4)]) rfl ?_
    refine tr_skip ?_
    refine tr_seq ?_
    refine tr_rg hP tabOk hsp fun A hA M hM => ?_
    cbv
    obtain ⟨r_5, hr1, H⟩ := bind_out H
    obtain ⟨pq1, eq1⟩ := hc35 hr1
    refine ⟨by subst hA; subst eq1; exact pq1, hM _ ?_⟩
    refine tr_ret ?_
    have hr := Option.some.inj H
    subst hr
    subst hA
    subst eq1
    exact rfl
theorem cut_Grow_sp : ∃ (pg : PT.denL [.list (.st [.int .i64, .int .i64, .int .i64]), .arr 6 (.int .i64)] → Prop) (fg : PT.denL [.list (.st [.int .i64, .int .i64, .int .i64]), .arr 6 (.int .i64)] → PT.denL [.arr 6 (.int .i64), .int .i64]), SpecRuns Try.prog 12 ⟨[.list (.st [.int .i64, .int .i64, .int .i64]), .arr 6 (.int .i64)], [.v, .v], [.arr 6 (.int .i64), .int .i64], [.n, .n], pg, fg⟩ ∧ (∀ {a1 : List ((Int × Int × Int × Unit))} {a2 : List Int} {y : List Int × Int}, cut_Grow a1 a2 = some y → pg (a1, a2, ()) ∧ y = ((fg (a1, a2, ())).1, (fg (a1, a2, ())).2.1)) ∧ (∀ {a1 : List ((Int × Int × Int × Unit))} {a2 : List Int}, (cut_Grow a1 a2).isSome = true → pg (a1, a2, ())) ∧ ∀ {a1 : List ((Int × Int × Int × Unit))} {a2 : List Int}, (cut_Grow a1 a2).getD (List.replicate 6 (0 : Int), (0 : Int)) = ((fg (a1, a2, ())).1, (fg (a1, a2, ())).2.1) := by
  obtain ⟨pg, fg, h, hc, hi, hd⟩ := spec_hide cut_Grow_runs
  refine ⟨pg, fg, h, ?_, ?_, ?_⟩
  · intro a1 a2 y e
    obtain ⟨h1, h2⟩ := hc (a1, a2, ()) (y.1, y.2, ()) (congrArg (Option.map fun r => (r.1, r.2, ())) e)
    exact ⟨h1, by first | (rw [h2]; done) | (rw [h2]; rfl)⟩
  · intro a1 a2
    intro e
    exact hi (a1, a2, ()) (map_isSome e)
  · intro a1 a2
    rw [hd (a1, a2, ())]
    cases cut_Grow a1 a2 <;> rfl
end Go.Proofs.Ytdahfpfkjljojaa.Ct
