/- Functions of the program as functions that may fail, and that the code computes them (printed). Each theorem bears its conditions itself. -/
import Derived.Test.YtdahfpfkjljojaaCtDefs
import Derived.Test.YtdahfpfkjljojaaCtTab
import Derived.Test.YtdahfpfkjljojaaCtQRQSizes
import Derived.Test.YtdahfpfkjljojaaCtQRQRest
open Go Go.Proofs.Ytdahfpfkjljojaa.Sy Go.Proofs
set_option maxHeartbeats 4000000
set_option maxRecDepth 100000
set_option cbv.maxSteps 10000000
set_option linter.unusedVariables false
set_option linter.unusedSimpArgs false
namespace Go.Proofs.Ytdahfpfkjljojaa.Ct
theorem someCut_runs : SpecRuns Try.prog 15 (oSpec [.list (.st [.int .i64, .int .i64, .int .i64]), .arr 6 (.int .i64)] [.v, .v] [.arr 6 (.int .i64)] [.n] fun x => (someCut x.1 x.2.1).map fun r => (r, ())) := by
  obtain ⟨pg27, fg27, hs27, hc27, hi27, hd27⟩ := R_Sizes_sp
  obtain ⟨pg33, fg33, hs33, hc33, hi33, hd33⟩ := R_Rest_sp
  have hsp : SpecsOk Try.prog [(27, ⟨[.list (.st [.int .i64, .int .i64, .int .i64])], [.v], [.arr 6 (.int .i64)], [.n], pg27, fg27⟩), (33, ⟨[.int .i64, .int .i64], [.v, .v], [.int .i64], [.n], pg33, fg33⟩)] := (specsOk_cons Try.func27 (by kernel_rfl) (by kernel_rfl) hs27 (specsOk_cons Try.func33 (by kernel_rfl) (by kernel_rfl) hs33 specsOk_nil))
  refine runs_of_o tabOk Try.func15 rfl (Nat.le_of_ble_eq_true rfl) rfl ?_
  rintro E ⟨(h_1 : List ((Int × Int × Int × Unit))), (c_2 : List Int), ⟨⟩⟩ y hP H hw
  obtain ⟨z, H1, rfl⟩ := map_out H
  replace H : someCut h_1 c_2 = some z := H1
  clear hw H1
  unfold someCut at H
  refine tr_keep [0, 1] (σ' := mkSl 23 0 [(0, .val (.list (.st [.int .i64, .int .i64, .int .i64])) .n h_1), (1, .val (.arr 6 (.int .i64)) .n c_2)]) rfl ?_
  refine tr_seq ?_
  refine tr_rg hP tabOk hsp fun A hA M hM => ?_
  cbv
  refine hM _ ?_
  refine tr_seq ?_
  refine tr_seq ?_
  refine tr_keepL [0, 3, 4] (fun t4_3 : List Int => mkSl 23 0 [(0, .val (.list (.st [.int .i64, .int .i64, .int .i64])) .n h_1), (3, .val (.box (.arr 6 (.int .i64))) (.b .n) c_2), (4, .val (.box (.arr 6 (.int .i64))) (.b .n) t4_3)]) H (by subst hA; rfl) (fun t4_3 H => ?_)
  clear hM hA M A
  refine tr_rg hP tabOk hsp fun A hA M hM => ?_
  cbv
  obtain ⟨r_4, hr1, H⟩ := bind_out H
  obtain ⟨pq1, eq1⟩ := hc27 hr1
  refine ⟨by subst hA; subst eq1; exact pq1, hM _ ?_⟩
  refine tr_block ?_
  refine tr_keep [3, 4, 8, 9] (σ' := mkSl 23 0 [(3, .val (.box (.arr 6 (.int .i64))) (.b .n) c_2), (4, .val (.box (.arr 6 (.int .i64))) (.b .n) t4_3), (8, .val (.arr 6 (.int .i64)) .n r_4), (9, .val (.int .i64) .n (0 : Int))]) (by subst hA; subst eq1; rfl) ?_
  clear pq1 eq1 hr1 hM hA M A
  obtain ⟨q_8, hq, H⟩ := bind_out H
  refine tr_loopB 0 (fun x : List Int × Int => someCut_L1 r_4 x.1 x.2) (fun x : List Int × Int => mkSl 23 0 [(3, .val (.box (.arr 6 (.int .i64))) (.b .n) x.1), (4, .val (.box (.arr 6 (.int .i64))) (.b .n) t4_3), (8, .val (.arr 6 (.int .i64)) .n r_4), (9, .val (.int .i64) .n x.2)]) [3, 4, 8, 9] (fun q_8 : List Int => mkSl 23 0 [(3, .val (.box (.arr 6 (.int .i64))) (.b .n) q_8), (4, .val (.box (.arr 6 (.int .i64))) (.b .n) t4_3)]) [3, 4] hq rfl (fun σ' h => ?_) (fun x r1 H => ?_)
  · refine tr_keep [3, 4] h ?_
    refine tr_seq ?_
    refine tr_rg hP tabOk hsp fun A hA M hM => ?_
    cbv
    refine hM _ ?_
    refine tr_ret ?_
    have hr := Option.some.inj H
    subst hr
    subst hA
    exact rfl
  · obtain ⟨c_5, t9_6⟩ := x
    replace H : someCut_L1 r_4 c_5 t9_6 = some r1 := H
    unfold someCut_L1 at H
    refine tr_seq ?_
    refine tr_rg hP tabOk hsp fun A hA M hM => ?_
    cbv
    refine hM _ ?_
    refine tr_seq ?_
    refine tr_keep [3, 4, 8, 9, 10] (σ' := mkSl 23 0 [(3, .val (.box (.arr 6 (.int .i64))) (.b .n) c_5), (4, .val (.box (.arr 6 (.int .i64))) (.b .n) t4_3), (8, .val (.arr 6 (.int .i64)) .n r_4), (9, .val (.int .i64) .n t9_6), (10, .val (.bool) .n (decide (t9_6 < (6 : Int))))]) (by subst hA; rfl) ?_
    clear hM hA M A
    refine tr_cond rfl (fun hc => ?_) (fun hc => ?_)
    · replace H := if_t H hc
      refine tr_keep [3, 4, 8, 9] (σ' := mkSl 23 0 [(3, .val (.box (.arr 6 (.int .i64))) (.b .n) c_5), (4, .val (.box (.arr 6 (.int .i64))) (.b .n) t4_3), (8, .val (.arr 6 (.int .i64)) .n r_4), (9, .val (.int .i64) .n t9_6)]) rfl ?_
      refine tr_skip ?_
      refine tr_seq ?_
      refine tr_block ?_
      refine tr_seq ?_
      refine tr_rg hP tabOk hsp fun A hA M hM => ?_
      cbv
      obtain ⟨ob1, H⟩ := ck_out H
      refine ⟨by subst hA; exact ob1, hM _ ?_⟩
      refine tr_keepL [3, 4, 5, 6, 8, 9] (fun n_9 : Int => mkSl 23 0 [(3, .val (.box (.arr 6 (.int .i64))) (.b .n) c_5), (4, .val (.box (.arr 6 (.int .i64))) (.b .n) t4_3), (5, .val (.int .i64) .n t9_6), (6, .val (.int .i64) .n n_9), (8, .val (.arr 6 (.int .i64)) .n r_4), (9, .val (.int .i64) .n t9_6)]) H (by subst hA; rfl) (fun n_9 H => ?_)
      clear ob1 hM hA M A
      refine tr_rg hP tabOk hsp fun A hA M hM => ?_
      cbv
      obtain ⟨ob1, H⟩ := ck_out H
      obtain ⟨r_10, hr2, H⟩ := bind_out H
      obtain ⟨pq2, eq2⟩ := hc33 hr2
      obtain ⟨ob3, H⟩ := ck_out H
      refine ⟨by subst hA; exact ob1, by subst hA; subst eq2; exact pq2, by subst hA; subst eq2; exact ob3, hM _ ?_⟩
      refine tr_keepL [3, 4, 8, 9] (fun c_11 : List Int => mkSl 23 0 [(3, .val (.box (.arr 6 (.int .i64))) (.b .n) c_11), (4, .val (.box (.arr 6 (.int .i64))) (.b .n) t4_3), (8, .val (.arr 6 (.int .i64)) .n r_4), (9, .val (.int .i64) .n t9_6)]) H (by subst hA; subst eq2; rfl) (fun c_11 H => ?_)
      clear ob3 pq2 eq2 hr2 ob1 hM hA M A
      refine tr_rg hP tabOk hsp fun A hA M hM => ?_
      cbv
      refine hM _ ?_
      exact Exists.intro _ (And.intro (Option.some.inj H).symm (by subst hA; rfl))
    · replace H := if_f H hc
      refine tr_keep [3, 4, 8, 9] (σ' := mkSl 23 0 [(3, .val (.box (.arr 6 (.int .i64))) (.b .n) c_5), (4, .val (.box (.arr 6 (.int .i64))) (.b .n) t4_3), (8, .val (.arr 6 (.int .i64)) .n r_4), (9, .val (.int .i64) .n t9_6)]) rfl ?_
      refine tr_exit ?_
      exact And.intro rfl (Exists.intro _ (And.intro (Option.some.inj H).symm (by rfl)))
theorem someCut_sp : ∃ (pg : PT.denL [.list (.st [.int .i64, .int .i64, .int .i64]), .arr 6 (.int .i64)] → Prop) (fg : PT.denL [.list (.st [.int .i64, .int .i64, .int .i64]), .arr 6 (.int .i64)] → PT.denL [.arr 6 (.int .i64)]), SpecRuns Try.prog 15 ⟨[.list (.st [.int .i64, .int .i64, .int .i64]), .arr 6 (.int .i64)], [.v, .v], [.arr 6 (.int .i64)], [.n], pg, fg⟩ ∧ (∀ {a1 : List ((Int × Int × Int × Unit))} {a2 : List Int} {y : List Int}, someCut a1 a2 = some y → pg (a1, a2, ()) ∧ y = (fg (a1, a2, ())).1) ∧ (∀ {a1 : List ((Int × Int × Int × Unit))} {a2 : List Int}, (someCut a1 a2).isSome = true → pg (a1, a2, ())) ∧ ∀ {a1 : List ((Int × Int × Int × Unit))} {a2 : List Int}, (someCut a1 a2).getD (List.replicate 6 (0 : Int)) = (fg (a1, a2, ())).1 := by
  obtain ⟨pg, fg, h, hc, hi, hd⟩ := spec_hide someCut_runs
  refine ⟨pg, fg, h, ?_, ?_, ?_⟩
  · intro a1 a2 y e
    obtain ⟨h1, h2⟩ := hc (a1, a2, ()) (y, ()) (congrArg (Option.map fun r => (r, ())) e)
    exact ⟨h1, by first | (rw [h2]; done) | (rw [h2]; rfl)⟩
  · intro a1 a2
    intro e
    exact hi (a1, a2, ()) (map_isSome e)
  · intro a1 a2
    rw [hd (a1, a2, ())]
    cases someCut a1 a2 <;> rfl
end Go.Proofs.Ytdahfpfkjljojaa.Ct
