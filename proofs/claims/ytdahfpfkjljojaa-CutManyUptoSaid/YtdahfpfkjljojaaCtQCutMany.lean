/- Functions of the program as functions that may fail, and that the code computes them (printed). Each theorem bears its conditions itself. -/
import Derived.Test.YtdahfpfkjljojaaCtDefs
import Derived.Test.YtdahfpfkjljojaaCtTab
import Derived.Test.YtdahfpfkjljojaaCtQcutQAll
import Derived.Test.YtdahfpfkjljojaaCtQslicesQContainsFuncQLEventQEventQ1Q23
import Derived.Test.YtdahfpfkjljojaaCtQRQRoom
open Go Go.Proofs.Ytdahfpfkjljojaa.Sy Go.Proofs
set_option maxHeartbeats 4000000
set_option maxRecDepth 100000
set_option cbv.maxSteps 10000000
set_option linter.unusedVariables false
set_option linter.unusedSimpArgs false
namespace Go.Proofs.Ytdahfpfkjljojaa.Ct
theorem CutMany_runs : SpecRuns Try.prog 6 (oSpec [.list (.st [.int .i64, .int .i64, .int .i64])] [.v] [.bool] [.n] fun x => (CutMany x.1).map fun r => (r, ())) := by
  obtain ⟨pg21, fg21, hs21, hc21, hi21, hd21⟩ := cut_All_sp
  obtain ⟨pg22c1_23, fg22c1_23, hs22c1_23, hc22c1_23, hi22c1_23, hd22c1_23⟩ := slices_ContainsFunc_LEvent_Event_1_23_sp
  obtain ⟨pg24, fg24, hs24, hc24, hi24, hd24⟩ := R_Room_sp
  have hsp : SpecsOk Try.prog [(21, ⟨[.list (.st [.int .i64, .int .i64, .int .i64])], [.v], [.list (.arr 6 (.int .i64)), .int .i64], [.l .n, .n], pg21, fg21⟩), (22, ⟨[.list (.st [.int .i64, .int .i64, .int .i64]), .st []], [.v, .c 23 []], [.bool], [.n], pg22c1_23, fg22c1_23⟩), (24, ⟨[.list (.st [.int .i64, .int .i64, .int .i64])], [.v], [.int .i64], [.n], pg24, fg24⟩)] := (specsOk_cons Try.func21 (by kernel_rfl) (by kernel_rfl) hs21 (specsOk_cons Try.func22 (by kernel_rfl) (by kernel_rfl) hs22c1_23 (specsOk_cons Try.func24 (by kernel_rfl) (by kernel_rfl) hs24 specsOk_nil)))
  refine runs_of_o tabOk Try.func6 rfl (Nat.le_of_ble_eq_true rfl) rfl ?_
  rintro E ⟨(h_1 : List ((Int × Int × Int × Unit))), ⟨⟩⟩ y hP H hw
  obtain ⟨z, H1, rfl⟩ := map_out H
  replace H : CutMany h_1 = some z := H1
  clear hw H1
  unfold CutMany at H
  refine tr_keep [0] (σ' := mkSl 59 0 [(0, .val (.list (.st [.int .i64, .int .i64, .int .i64])) .n h_1)]) rfl ?_
  refine tr_seq ?_
  refine tr_rg hP tabOk hsp fun A hA M hM => ?_
  cbv
  refine hM _ ?_
  refine tr_seq ?_
  refine tr_seq ?_
  refine tr_keep [0] (σ' := mkSl 59 0 [(0, .val (.list (.st [.int .i64, .int .i64, .int .i64])) .n h_1)]) (by subst hA; rfl) ?_
  clear hM hA M A
  refine tr_rg hP tabOk hsp fun A hA M hM => ?_
  cbv
  obtain ⟨r_2, hr1, H⟩ := bind_out H
  obtain ⟨pq1, eq1⟩ := hc21 hr1
  refine ⟨by subst hA; subst eq1; exact pq1, hM _ ?_⟩
  refine tr_seq ?_
  refine tr_keep [0, 3, 4] (σ' := mkSl 59 0 [(0, .val (.list (.st [.int .i64, .int .i64, .int .i64])) .n h_1), (3, .val (.list (.arr 6 (.int .i64))) (.l .n) r_2.1), (4, .val (.int .i64) .n r_2.2)]) (by subst hA; subst eq1; rfl) ?_
  clear pq1 eq1 hr1 hM hA M A
  refine tr_rg hP tabOk hsp fun A hA M hM => ?_
  cbv
  refine hM _ ?_
  refine tr_keep [0, 21] (σ' := mkSl 59 0 [(0, .val (.list (.st [.int .i64, .int .i64, .int .i64])) .n h_1), (21, .val (.bool) .n ((r_2.2 != (0 : Int)) || ((r_2.1.length : Int) != (4 : Int))))]) (by subst hA; rfl) ?_
  clear hM hA M A
  refine tr_cond rfl (fun hc => ?_) (fun hc => ?_)
  · replace H := if_t H hc
    refine tr_keep [0] (σ' := mkSl 59 0 [(0, .val (.list (.st [.int .i64, .int .i64, .int .i64])) .n h_1)]) rfl ?_
    refine tr_seq ?_
    refine tr_rg hP tabOk hsp fun A hA M hM => ?_
    cbv
    refine hM _ ?_
    refine tr_ret ?_
    have hr := Option.some.inj H
    subst hr
    subst hA
    exact rfl
  · replace H := if_f H hc
    refine tr_keep [0] (σ' := mkSl 59 0 [(0, .val (.list (.st [.int .i64, .int .i64, .int .i64])) .n h_1)]) rfl ?_
    refine tr_skip ?_
    refine tr_seq ?_
    refine tr_rg hP tabOk hsp fun A hA M hM => ?_
    cbv
    obtain ⟨r_3, hr1, H⟩ := bind_out H
    obtain ⟨pq1, eq1⟩ := hc21 hr1
    refine ⟨by subst hA; subst eq1; exact pq1, hM _ ?_⟩
    refine tr_seq ?_
    refine tr_seq ?_
    refine tr_keep [0, 5, 6] (σ' := mkSl 59 0 [(0, .val (.list (.st [.int .i64, .int .i64, .int .i64])) .n h_1), (5, .val (.list (.arr 6 (.int .i64))) (.l .n) r_3.1), (6, .val (.int .i64) .n r_3.2)]) (by subst hA; subst eq1; rfl) ?_
    clear pq1 eq1 hr1 hM hA M A
    refine tr_rg hP tabOk hsp fun A hA M hM => ?_
    cbv
    refine hM _ ?_
    refine tr_keep [0, 5, 28] (σ' := mkSl 59 0 [(0, .val (.list (.st [.int .i64, .int .i64, .int .i64])) .n h_1), (5, .val (.list (.arr 6 (.int .i64))) (.l .n) r_3.1), (28, .val (.bool) .n (r_3.2 != (0 : Int)))]) (by subst hA; rfl) ?_
    clear hM hA M A
    refine tr_cond rfl (fun hc => ?_) (fun hc => ?_)
    · replace H := if_t H hc
      refine tr_keep [0, 5] (σ' := mkSl 59 0 [(0, .val (.list (.st [.int .i64, .int .i64, .int .i64])) .n h_1), (5, .val (.list (.arr 6 (.int .i64))) (.l .n) r_3.1)]) rfl ?_
      refine tr_seq ?_
      refine tr_rg hP tabOk hsp fun A hA M hM => ?_
      cbv
      refine hM _ ?_
      refine tr_ret ?_
      have hr := Option.some.inj H
      subst hr
      subst hA
      exact rfl
    · replace H := if_f H hc
      refine tr_keep [0, 5] (σ' := mkSl 59 0 [(0, .val (.list (.st [.int .i64, .int .i64, .int .i64])) .n h_1), (5, .val (.list (.arr 6 (.int .i64))) (.l .n) r_3.1)]) rfl ?_
      refine tr_skip ?_
      refine tr_seq ?_
      refine tr_rg hP tabOk hsp fun A hA M hM => ?_
      cbv
      obtain ⟨r_4, hr1, H⟩ := bind_out H
      obtain ⟨pq1, eq1⟩ := hc22c1_23 hr1
      refine ⟨by subst hA; subst eq1; exact pq1, hM _ ?_⟩
      refine tr_seq ?_
      refine tr_keepL [0, 5, 7] (fun free_5 : Bool => mkSl 59 0 [(0, .val (.list (.st [.int .i64, .int .i64, .int .i64])) .n h_1), (5, .val (.list (.arr 6 (.int .i64))) (.l .n) r_3.1), (7, .val (.bool) .n free_5)]) H (by subst hA; subst eq1; rfl) (fun free_5 H => ?_)
      clear pq1 eq1 hr1 hM hA M A
      refine tr_rg hP tabOk hsp fun A hA M hM => ?_
      cbv
      obtain ⟨r_6, er1, H⟩ := letO_out H
      obtain ⟨ob1, H⟩ := ck_out H
      have eq1 := er1.trans hd24
      obtain ⟨r_7, er2, H⟩ := letO_out H
      obtain ⟨ob2, H⟩ := ck_out H
      have eq2 := er2.trans hd24
      refine ⟨by subst hA; subst eq1; exact fun h0 => hi24 (ob1 h0), by subst hA; subst eq1; subst eq2; exact fun h0 h1 => hi24 (ob2 h0 h1), hM _ ?_⟩
      refine tr_ret ?_
      have hr := Option.some.inj H
      subst hr
      subst hA
      subst eq1
      subst eq2
      exact rfl
theorem CutMany_sp : ∃ (pg : PT.denL [.list (.st [.int .i64, .int .i64, .int .i64])] → Prop) (fg : PT.denL [.list (.st [.int .i64, .int .i64, .int .i64])] → PT.denL [.bool]), SpecRuns Try.prog 6 ⟨[.list (.st [.int .i64, .int .i64, .int .i64])], [.v], [.bool], [.n], pg, fg⟩ ∧ (∀ {a1 : List ((Int × Int × Int × Unit))} {y : Bool}, CutMany a1 = some y → pg (a1, ()) ∧ y = (fg (a1, ())).1) ∧ (∀ {a1 : List ((Int × Int × Int × Unit))}, (CutMany a1).isSome = true → pg (a1, ())) ∧ ∀ {a1 : List ((Int × Int × Int × Unit))}, (CutMany a1).getD false = (fg (a1, ())).1 := by
  obtain ⟨pg, fg, h, hc, hi, hd⟩ := spec_hide CutMany_runs
  refine ⟨pg, fg, h, ?_, ?_, ?_⟩
  · intro a1 y e
    obtain ⟨h1, h2⟩ := hc (a1, ()) (y, ()) (congrArg (Option.map fun r => (r, ())) e)
    exact ⟨h1, by first | (rw [h2]; done) | (rw [h2]; rfl)⟩
  · intro a1
    intro e
    exact hi (a1, ()) (map_isSome e)
  · intro a1
    rw [hd (a1, ())]
    cases CutMany a1 <;> rfl
end Go.Proofs.Ytdahfpfkjljojaa.Ct
