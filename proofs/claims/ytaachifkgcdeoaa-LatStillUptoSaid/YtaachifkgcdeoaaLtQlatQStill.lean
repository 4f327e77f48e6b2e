/- Functions of the program as functions that may fail, and that the code computes them (printed). Each theorem bears its conditions itself. -/
import Derived.Test.YtaachifkgcdeoaaLtDefs
import Derived.Test.YtaachifkgcdeoaaLtTab
import Derived.Test.YtaachifkgcdeoaaLtQlatQRises
open Go Go.Proofs.Ytaachifkgcdeoaa.Sy Go.Proofs
set_option maxHeartbeats 4000000
set_option maxRecDepth 100000
set_option cbv.maxSteps 10000000
set_option linter.unusedVariables false
set_option linter.unusedSimpArgs false
namespace Go.Proofs.Ytaachifkgcdeoaa.Lt
theorem lat_Still_runs : SpecRuns Try.prog 15 (oSpec [.list (.int .u16), .list (.int .i64)] [.v, .v] [.int .i64, .int .i64, .int .i64] [.n, .n, .n] fun x => (lat_Still x.1 x.2.1).map fun r => (r.1, r.2.1, r.2.2, ())) := by
  obtain ⟨pg16, fg16, hs16, hc16, hi16, hd16⟩ := lat_Rises_sp
  have hsp : SpecsOk Try.prog [(16, ⟨[.list (.int .u16), .list (.int .i64)], [.v, .v], [.int .i64], [.n], pg16, fg16⟩)] := (specsOk_cons Try.func16 (by kernel_rfl) (by kernel_rfl) hs16 specsOk_nil)
  refine runs_of_o tabOk Try.func15 rfl (Nat.le_of_ble_eq_true rfl) rfl ?_
  rintro E ⟨(l_1 : List Int), (f_2 : List Int), ⟨⟩⟩ y hP H hw
  obtain ⟨z, H1, rfl⟩ := map_out H
  replace H : lat_Still l_1 f_2 = some z := H1
  clear hw H1
  unfold lat_Still at H
  refine tr_keep [0, 1] (σ' := mkSl 41 0 [(0, .val (.list (.int .u16)) .n l_1), (1, .val (.list (.int .i64)) .n f_2)]) rfl ?_
  refine tr_seq ?_
  refine tr_rg hP tabOk hsp fun A hA M hM => ?_
  cbv
  refine hM _ ?_
  refine tr_seq ?_
  refine tr_seq ?_
  refine tr_keep [0, 1] (σ' := mkSl 41 0 [(0, .val (.list (.int .u16)) .n l_1), (1, .val (.list (.int .i64)) .n f_2)]) (by subst hA; rfl) ?_
  clear hM hA M A
  refine tr_rg hP tabOk hsp fun A hA M hM => ?_
  cbv
  obtain ⟨r_3, hr1, H⟩ := bind_out H
  obtain ⟨pq1, eq1⟩ := hc16 hr1
  refine ⟨by subst hA; subst eq1; exact pq1, hM _ ?_⟩
  refine tr_seq ?_
  refine tr_keep [0, 1, 7] (σ' := mkSl 41 0 [(0, .val (.list (.int .u16)) .n l_1), (1, .val (.list (.int .i64)) .n f_2), (7, .val (.int .i64) .n r_3)]) (by subst hA; subst eq1; rfl) ?_
  clear pq1 eq1 hr1 hM hA M A
  refine tr_rg hP tabOk hsp fun A hA M hM => ?_
  cbv
  refine hM _ ?_
  refine tr_keep [0, 1, 7, 14] (σ' := mkSl 41 0 [(0, .val (.list (.int .u16)) .n l_1), (1, .val (.list (.int .i64)) .n f_2), (7, .val (.int .i64) .n r_3), (14, .val (.bool) .n (r_3 != (0 : Int)))]) (by subst hA; rfl) ?_
  clear hM hA M A
  refine tr_cond rfl (fun hc => ?_) (fun hc => ?_)
  · replace H := if_t H hc
    refine tr_keep [0, 1, 7] (σ' := mkSl 41 0 [(0, .val (.list (.int .u16)) .n l_1), (1, .val (.list (.int .i64)) .n f_2), (7, .val (.int .i64) .n r_3)]) rfl ?_
    refine tr_seq ?_
    refine tr_rg hP tabOk hsp fun A hA M hM => ?_
    cbv
    refine hM _ ?_
    refine tr_ret ?_
    have hr := Option.some.inj H
    subst hr
    subst hA
    exact rfl
  · replace H := if_f H hc
    refine tr_keep [0, 1, 7] (σ' := mkSl 41 0 [(0, .val (.list (.int .u16)) .n l_1), (1, .val (.list (.int .i64)) .n f_2), (7, .val (.int .i64) .n r_3)]) rfl ?_
    refine tr_skip ?_
    refine tr_seq ?_
    refine tr_rg hP tabOk hsp fun A hA M hM => ?_
    cbv
    refine hM _ ?_
    refine tr_seq ?_
    refine tr_block ?_
    refine tr_keep [0, 1, 8] (σ' := mkSl 41 0 [(0, .val (.list (.int .u16)) .n l_1), (1, .val (.list (.int .i64)) .n f_2), (8, .val (.int .i64) .n (0 : Int))]) (by subst hA; rfl) ?_
    clear hM hA M A
    obtain ⟨q_6, hq, H⟩ := bind_out H
    refine tr_loopB 0 (fun x : Int => lat_Still_L1 f_2 x) (fun x : Int => mkSl 41 0 [(0, .val (.list (.int .u16)) .n l_1), (1, .val (.list (.int .i64)) .n f_2), (8, .val (.int .i64) .n x)]) [0, 1, 8] (fun q_6 : Int => mkSl 41 0 [(0, .val (.list (.int .u16)) .n l_1), (1, .val (.list (.int .i64)) .n f_2), (8, .val (.int .i64) .n q_6)]) [0, 1, 8] hq rfl (fun σ' h => ?_) (fun x r1 H => ?_)
    · refine tr_keep [0, 1, 8] h ?_
      refine tr_seq ?_
      refine tr_rg hP tabOk hsp fun A hA M hM => ?_
      cbv
      refine hM _ ?_
      refine tr_seq ?_
      refine tr_block ?_
      refine tr_keepL [1, 8, 9] (fun high_7 : Int => mkSl 41 0 [(1, .val (.list (.int .i64)) .n f_2), (8, .val (.int .i64) .n q_6), (9, .val (.int .i64) .n high_7)]) H (by subst hA; rfl) (fun high_7 H => ?_)
      clear hM hA M A
      obtain ⟨q_10, hq, H⟩ := bind_out H
      refine tr_loopB 2 (fun x : Int => lat_Still_L2 f_2 x) (fun x : Int => mkSl 41 0 [(1, .val (.list (.int .i64)) .n f_2), (8, .val (.int .i64) .n q_6), (9, .val (.int .i64) .n x)]) [1, 8, 9] (fun q_10 : Int => mkSl 41 0 [(8, .val (.int .i64) .n q_6), (9, .val (.int .i64) .n q_10)]) [8, 9] hq rfl (fun σ' h => ?_) (fun x r2 H => ?_)
      · refine tr_keep [8, 9] h ?_
        refine tr_seq ?_
        refine tr_rg hP tabOk hsp fun A hA M hM => ?_
        cbv
        refine hM _ ?_
        refine tr_ret ?_
        have hr := Option.some.inj H
        subst hr
        subst hA
        exact rfl
      · obtain ⟨high_8, rfl⟩ : ∃ v, v = x := ⟨x, rfl⟩
        replace H : lat_Still_L2 f_2 high_8 = some r2 := H
        unfold lat_Still_L2 at H
        refine tr_seq ?_
        refine tr_seq ?_
        refine tr_rg hP tabOk hsp fun A hA M hM => ?_
        cbv
        obtain ⟨ob1, H⟩ := ck_out H
        refine ⟨by subst hA; exact ob1, hM _ ?_⟩
        refine tr_keep [1, 8, 9, 34] (σ' := mkSl 41 0 [(1, .val (.list (.int .i64)) .n f_2), (8, .val (.int .i64) .n q_6), (9, .val (.int .i64) .n high_8), (34, .val (.bool) .n ((f_2.getD high_8.toNat (0 : Int)) != high_8))]) (by subst hA; rfl) ?_
        clear ob1 hM hA M A
        refine tr_cond rfl (fun hc => ?_) (fun hc => ?_)
        · replace H := if_t H hc
          refine tr_keep [1, 8, 9] (σ' := mkSl 41 0 [(1, .val (.list (.int .i64)) .n f_2), (8, .val (.int .i64) .n q_6), (9, .val (.int .i64) .n high_8)]) rfl ?_
          refine tr_skip ?_
          refine tr_block ?_
          refine tr_rg hP tabOk hsp fun A hA M hM => ?_
          cbv
          obtain ⟨ob1, H⟩ := ck_out H
          refine ⟨by subst hA; exact ob1, hM _ ?_⟩
          exact Exists.intro _ (And.intro (Option.some.inj H).symm (by subst hA; rfl))
        · replace H := if_f H hc
          refine tr_keep [1, 8, 9] (σ' := mkSl 41 0 [(1, .val (.list (.int .i64)) .n f_2), (8, .val (.int .i64) .n q_6), (9, .val (.int .i64) .n high_8)]) rfl ?_
          refine tr_exit ?_
          exact And.intro rfl (Exists.intro _ (And.intro (Option.some.inj H).symm (by rfl)))
    · obtain ⟨low_4, rfl⟩ : ∃ v, v = x := ⟨x, rfl⟩
      replace H : lat_Still_L1 f_2 low_4 = some r1 := H
      unfold lat_Still_L1 at H
      refine tr_seq ?_
      refine tr_seq ?_
      refine tr_rg hP tabOk hsp fun A hA M hM => ?_
      cbv
      obtain ⟨ob1, H⟩ := ck_out H
      refine ⟨by subst hA; exact ob1, hM _ ?_⟩
      refine tr_keep [0, 1, 8, 21] (σ' := mkSl 41 0 [(0, .val (.list (.int .u16)) .n l_1), (1, .val (.list (.int .i64)) .n f_2), (8, .val (.int .i64) .n low_4), (21, .val (.bool) .n ((f_2.getD low_4.toNat (0 : Int)) != low_4))]) (by subst hA; rfl) ?_
      clear ob1 hM hA M A
      refine tr_cond rfl (fun hc => ?_) (fun hc => ?_)
      · replace H := if_t H hc
        refine tr_keep [0, 1, 8] (σ' := mkSl 41 0 [(0, .val (.list (.int .u16)) .n l_1), (1, .val (.list (.int .i64)) .n f_2), (8, .val (.int .i64) .n low_4)]) rfl ?_
        refine tr_skip ?_
        refine tr_block ?_
        refine tr_rg hP tabOk hsp fun A hA M hM => ?_
        cbv
        obtain ⟨ob1, H⟩ := ck_out H
        refine ⟨by subst hA; exact ob1, hM _ ?_⟩
        exact Exists.intro _ (And.intro (Option.some.inj H).symm (by subst hA; rfl))
      · replace H := if_f H hc
        refine tr_keep [0, 1, 8] (σ' := mkSl 41 0 [(0, .val (.list (.int .u16)) .n l_1), (1, .val (.list (.int .i64)) .n f_2), (8, .val (.int .i64) .n low_4)]) rfl ?_
        refine tr_exit ?_
        exact And.intro rfl (Exists.intro _ (And.intro (Option.some.inj H).symm (by rfl)))
theorem lat_Still_sp : ∃ (pg : PT.denL [.list (.int .u16), .list (.int .i64)] → Prop) (fg : PT.denL [.list (.int .u16), .list (.int .i64)] → PT.denL [.int .i64, .int .i64, .int .i64]), SpecRuns Try.prog 15 ⟨[.list (.int .u16), .list (.int .i64)], [.v, .v], [.int .i64, .int .i64, .int .i64], [.n, .n, .n], pg, fg⟩ ∧ (∀ {a1 : List Int} {a2 : List Int} {y : Int × Int × Int}, lat_Still a1 a2 = some y → pg (a1, a2, ()) ∧ y = ((fg (a1, a2, ())).1, (fg (a1, a2, ())).2.1, (fg (a1, a2, ())).2.2.1)) ∧ (∀ {a1 : List Int} {a2 : List Int}, (lat_Still a1 a2).isSome = true → pg (a1, a2, ())) ∧ ∀ {a1 : List Int} {a2 : List Int}, (lat_Still a1 a2).getD ((0 : Int), (0 : Int), (0 : Int)) = ((fg (a1, a2, ())).1, (fg (a1, a2, ())).2.1, (fg (a1, a2, ())).2.2.1) := by
  obtain ⟨pg, fg, h, hc, hi, hd⟩ := spec_hide lat_Still_runs
  refine ⟨pg, fg, h, ?_, ?_, ?_⟩
  · intro a1 a2 y e
    obtain ⟨h1, h2⟩ := hc (a1, a2, ()) (y.1, y.2.1, y.2.2, ()) (congrArg (Option.map fun r => (r.1, r.2.1, r.2.2, ())) e)
    exact ⟨h1, by first | (rw [h2]; done) | (rw [h2]; rfl)⟩
  · intro a1 a2
    intro e
    exact hi (a1, a2, ()) (map_isSome e)
  · intro a1 a2
    rw [hd (a1, a2, ())]
    cases lat_Still a1 a2 <;> rfl
end Go.Proofs.Ytaachifkgcdeoaa.Lt
