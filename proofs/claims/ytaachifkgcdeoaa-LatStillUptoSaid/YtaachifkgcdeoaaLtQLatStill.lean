/- Functions of the program as functions that may fail, and that the code computes them (printed). Each theorem bears its conditions itself. -/
import Derived.Test.YtaachifkgcdeoaaLtDefs
import Derived.Test.YtaachifkgcdeoaaLtTab
import Derived.Test.YtaachifkgcdeoaaLtQlatQStill
import Derived.Test.YtaachifkgcdeoaaLtQlatQRises
open Go Go.Proofs.Ytaachifkgcdeoaa.Sy Go.Proofs
set_option maxHeartbeats 4000000
set_option maxRecDepth 100000
set_option cbv.maxSteps 10000000
set_option linter.unusedVariables false
set_option linter.unusedSimpArgs false
namespace Go.Proofs.Ytaachifkgcdeoaa.Lt
theorem LatStill_runs : SpecRuns Try.prog 5 (oSpec [.list (.int .u16), .list (.int .i64)] [.v, .v] [.bool] [.n] fun x => (LatStill x.1 x.2.1).map fun r => (r, ())) := by
  obtain ⟨pg15, fg15, hs15, hc15, hi15, hd15⟩ := lat_Still_sp
  obtain ⟨pg16, fg16, hs16, hc16, hi16, hd16⟩ := lat_Rises_sp
  have hsp : SpecsOk Try.prog [(15, ⟨[.list (.int .u16), .list (.int .i64)], [.v, .v], [.int .i64, .int .i64, .int .i64], [.n, .n, .n], pg15, fg15⟩), (16, ⟨[.list (.int .u16), .list (.int .i64)], [.v, .v], [.int .i64], [.n], pg16, fg16⟩)] := (specsOk_cons Try.func15 (by kernel_rfl) (by kernel_rfl) hs15 (specsOk_cons Try.func16 (by kernel_rfl) (by kernel_rfl) hs16 specsOk_nil))
  refine runs_of_o tabOk Try.func5 rfl (Nat.le_of_ble_eq_true rfl) rfl ?_
  rintro E ⟨(t0_1 : List Int), (t1_2 : List Int), ⟨⟩⟩ y hP H hw
  obtain ⟨z, H1, rfl⟩ := map_out H
  replace H : LatStill t0_1 t1_2 = some z := H1
  clear hw H1
  unfold LatStill at H
  refine tr_keep [0, 1] (σ' := mkSl 101 0 [(0, .val (.list (.int .u16)) .n t0_1), (1, .val (.list (.int .i64)) .n t1_2)]) rfl ?_
  refine tr_seq ?_
  refine tr_rg hP tabOk hsp fun A hA M hM => ?_
  cbv
  refine hM _ ?_
  refine tr_seq ?_
  refine tr_seq ?_
  refine tr_keep [0, 1] (σ' := mkSl 101 0 [(0, .val (.list (.int .u16)) .n t0_1), (1, .val (.list (.int .i64)) .n t1_2)]) (by subst hA; rfl) ?_
  clear hM hA M A
  refine tr_rg hP tabOk hsp fun A hA M hM => ?_
  cbv
  obtain ⟨r_3, hr1, H⟩ := bind_out H
  obtain ⟨pq1, eq1⟩ := hc15 hr1
  refine ⟨by subst hA; subst eq1; exact pq1, hM _ ?_⟩
  refine tr_seq ?_
  refine tr_keep [0, 1, 5, 6, 7] (σ' := mkSl 101 0 [(0, .val (.list (.int .u16)) .n t0_1), (1, .val (.list (.int .i64)) .n t1_2), (5, .val (.int .i64) .n r_3.1), (6, .val (.int .i64) .n r_3.2.1), (7, .val (.int .i64) .n r_3.2.2)]) (by subst hA; subst eq1; rfl) ?_
  clear pq1 eq1 hr1 hM hA M A
  refine tr_rg hP tabOk hsp fun A hA M hM => ?_
  cbv
  refine hM _ ?_
  refine tr_keep [0, 1, 29] (σ' := mkSl 101 0 [(0, .val (.list (.int .u16)) .n t0_1), (1, .val (.list (.int .i64)) .n t1_2), (29, .val (.bool) .n (((r_3.2.2 != (0 : Int)) || (r_3.1 != (1 : Int))) || (r_3.2.1 != (2 : Int))))]) (by subst hA; rfl) ?_
  clear hM hA M A
  refine tr_cond rfl (fun hc => ?_) (fun hc => ?_)
  · replace H := if_t H hc
    refine tr_keep [0, 1] (σ' := mkSl 101 0 [(0, .val (.list (.int .u16)) .n t0_1), (1, .val (.list (.int .i64)) .n t1_2)]) rfl ?_
    refine tr_seq ?_
    refine tr_rg hP tabOk hsp fun A hA M hM => ?_
    cbv
    refine hM _ ?_
    refine tr_ret ?_
    have hr := Option.some.inj H
    subst hr
    subst hA
    exact rfl
  · replace H := if_f H hc
    refine tr_keep [0, 1] (σ' := mkSl 101 0 [(0, .val (.list (.int .u16)) .n t0_1), (1, .val (.list (.int .i64)) .n t1_2)]) rfl ?_
    refine tr_skip ?_
    refine tr_seq ?_
    refine tr_rg hP tabOk hsp fun A hA M hM => ?_
    cbv
    obtain ⟨r_4, hr1, H⟩ := bind_out H
    obtain ⟨pq1, eq1⟩ := hc15 hr1
    refine ⟨by subst hA; subst eq1; exact pq1, hM _ ?_⟩
    refine tr_seq ?_
    refine tr_seq ?_
    refine tr_keep [0, 1, 8, 9, 10] (σ' := mkSl 101 0 [(0, .val (.list (.int .u16)) .n t0_1), (1, .val (.list (.int .i64)) .n t1_2), (8, .val (.int .i64) .n r_4.1), (9, .val (.int .i64) .n r_4.2.1), (10, .val (.int .i64) .n r_4.2.2)]) (by subst hA; subst eq1; rfl) ?_
    clear pq1 eq1 hr1 hM hA M A
    refine tr_rg hP tabOk hsp fun A hA M hM => ?_
    cbv
    refine hM _ ?_
    refine tr_keep [0, 1, 8, 9, 10, 38] (σ' := mkSl 101 0 [(0, .val (.list (.int .u16)) .n t0_1), (1, .val (.list (.int .i64)) .n t1_2), (8, .val (.int .i64) .n r_4.1), (9, .val (.int .i64) .n r_4.2.1), (10, .val (.int .i64) .n r_4.2.2), (38, .val (.bool) .n (r_4.2.2 != (0 : Int)))]) (by subst hA; rfl) ?_
    clear hM hA M A
    refine tr_cond rfl (fun hc => ?_) (fun hc => ?_)
    · replace H := if_t H hc
      refine tr_keep [0, 1, 8, 9, 10] (σ' := mkSl 101 0 [(0, .val (.list (.int .u16)) .n t0_1), (1, .val (.list (.int .i64)) .n t1_2), (8, .val (.int .i64) .n r_4.1), (9, .val (.int .i64) .n r_4.2.1), (10, .val (.int .i64) .n r_4.2.2)]) rfl ?_
      refine tr_seq ?_
      refine tr_rg hP tabOk hsp fun A hA M hM => ?_
      cbv
      obtain ⟨r_5, er1, H⟩ := letO_out H
      obtain ⟨ob1, H⟩ := ck_out H
      have eq1 := er1.trans hd16
      refine ⟨by subst hA; subst eq1; exact fun h0 => hi16 (ob1 h0), hM _ ?_⟩
      refine tr_ret ?_
      have hr := Option.some.inj H
      subst hr
      subst hA
      subst eq1
      exact rfl
    · replace H := if_f H hc
      refine tr_keep [0, 1, 8, 9, 10] (σ' := mkSl 101 0 [(0, .val (.list (.int .u16)) .n t0_1), (1, .val (.list (.int .i64)) .n t1_2), (8, .val (.int .i64) .n r_4.1), (9, .val (.int .i64) .n r_4.2.1), (10, .val (.int .i64) .n r_4.2.2)]) rfl ?_
      refine tr_skip ?_
      refine tr_seq ?_
      refine tr_seq ?_
      refine tr_rg hP tabOk hsp fun A hA M hM => ?_
      cbv
      obtain ⟨ob1, H⟩ := ck_out H
      obtain ⟨ob2, H⟩ := ck_out H
      refine ⟨by subst hA; exact ob1, by subst hA; exact ob2, hM _ ?_⟩
      refine tr_keep [0, 1, 8, 9, 65] (σ' := mkSl 101 0 [(0, .val (.list (.int .u16)) .n t0_1), (1, .val (.list (.int .i64)) .n t1_2), (8, .val (.int .i64) .n r_4.1), (9, .val (.int .i64) .n r_4.2.1), (65, .val (.bool) .n (((t1_2.getD r_4.1.toNat (0 : Int)) != r_4.1) || ((t1_2.getD r_4.2.1.toNat (0 : Int)) != r_4.2.1)))]) (by subst hA; rfl) ?_
      clear ob2 ob1 hM hA M A
      refine tr_cond rfl (fun hc => ?_) (fun hc => ?_)
      · replace H := if_t H hc
        refine tr_keep [0, 1, 8, 9] (σ' := mkSl 101 0 [(0, .val (.list (.int .u16)) .n t0_1), (1, .val (.list (.int .i64)) .n t1_2), (8, .val (.int .i64) .n r_4.1), (9, .val (.int .i64) .n r_4.2.1)]) rfl ?_
        refine tr_seq ?_
        refine tr_rg hP tabOk hsp fun A hA M hM => ?_
        cbv
        refine hM _ ?_
        refine tr_ret ?_
        have hr := Option.some.inj H
        subst hr
        subst hA
        exact rfl
      · replace H := if_f H hc
        refine tr_keep [0, 1, 8, 9] (σ' := mkSl 101 0 [(0, .val (.list (.int .u16)) .n t0_1), (1, .val (.list (.int .i64)) .n t1_2), (8, .val (.int .i64) .n r_4.1), (9, .val (.int .i64) .n r_4.2.1)]) rfl ?_
        refine tr_skip ?_
        refine tr_seq ?_
        refine tr_seq ?_
        refine tr_rg hP tabOk hsp fun A hA M hM => ?_
        cbv
        refine hM _ ?_
        refine tr_block ?_
        refine tr_keepL [0, 8, 9, 66, 67, 68] (fun t67_6 : Int => mkSl 101 0 [(0, .val (.list (.int .u16)) .n t0_1), (8, .val (.int .i64) .n r_4.1), (9, .val (.int .i64) .n r_4.2.1), (66, .val (.list (.int .i64)) .n t1_2), (67, .val (.int .i64) .n t67_6), (68, .val (.int .i64) .n (0 : Int))]) H (by subst hA; rfl) (fun t67_6 H => ?_)
        clear hM hA M A
        obtain ⟨q, hq, Hl, Hr⟩ := bindE_out H
        refine tr_loopE 0 (fun x : Int => LatStill_L1 t0_1 t1_2 r_4 t67_6 x) (fun x : Int => mkSl 101 0 [(0, .val (.list (.int .u16)) .n t0_1), (8, .val (.int .i64) .n r_4.1), (9, .val (.int .i64) .n r_4.2.1), (66, .val (.list (.int .i64)) .n t1_2), (67, .val (.int .i64) .n t67_6), (68, .val (.int .i64) .n x)]) [0, 8, 9, 66, 67, 68] (fun q_8 : Unit => mkSl 101 0 []) [] hq rfl Hr (fun q_8 hl σ' h => ?_) (fun x r1 H => ?_)
        · replace H := Hl q_8 hl
          refine tr_keep [] h ?_
          refine tr_seq ?_
          refine tr_rg hP tabOk hsp fun A hA M hM => ?_
          cbv
          refine hM _ ?_
          refine tr_ret ?_
          have hr := Option.some.inj H
          subst hr
          subst hA
          exact rfl
        · obtain ⟨t68_7, rfl⟩ : ∃ v, v = x := ⟨x, rfl⟩
          replace H : LatStill_L1 t0_1 t1_2 r_4 t67_6 t68_7 = some r1 := H
          unfold LatStill_L1 at H
          refine tr_seq ?_
          refine tr_rg hP tabOk hsp fun A hA M hM => ?_
          cbv
          refine hM _ ?_
          refine tr_seq ?_
          refine tr_keep [0, 8, 9, 66, 67, 68, 69] (σ' := mkSl 101 0 [(0, .val (.list (.int .u16)) .n t0_1), (8, .val (.int .i64) .n r_4.1), (9, .val (.int .i64) .n r_4.2.1), (66, .val (.list (.int .i64)) .n t1_2), (67, .val (.int .i64) .n t67_6), (68, .val (.int .i64) .n t68_7), (69, .val (.bool) .n (decide (t68_7 < t67_6)))]) (by subst hA; rfl) ?_
          clear hM hA M A
          refine tr_cond rfl (fun hc => ?_) (fun hc => ?_)
          · replace H := if_t H hc
            refine tr_keep [0, 8, 9, 66, 67, 68] (σ' := mkSl 101 0 [(0, .val (.list (.int .u16)) .n t0_1), (8, .val (.int .i64) .n r_4.1), (9, .val (.int .i64) .n r_4.2.1), (66, .val (.list (.int .i64)) .n t1_2), (67, .val (.int .i64) .n t67_6), (68, .val (.int .i64) .n t68_7)]) rfl ?_
            refine tr_skip ?_
            refine tr_seq ?_
            refine tr_block ?_
            refine tr_seq ?_
            refine tr_rg hP tabOk hsp fun A hA M hM => ?_
            cbv
            obtain ⟨ob1, H⟩ := ck_out H
            refine ⟨by subst hA; exact ob1, hM _ ?_⟩
            refine tr_seq ?_
            refine tr_keepL [0, 8, 9, 11, 12, 66, 67, 68] (fun t12_9 : Int => mkSl 101 0 [(0, .val (.list (.int .u16)) .n t0_1), (8, .val (.int .i64) .n r_4.1), (9, .val (.int .i64) .n r_4.2.1), (11, .val (.int .i64) .n t68_7), (12, .val (.int .i64) .n t12_9), (66, .val (.list (.int .i64)) .n t1_2), (67, .val (.int .i64) .n t67_6), (68, .val (.int .i64) .n t68_7)]) H (by subst hA; rfl) (fun t12_9 H => ?_)
            clear ob1 hM hA M A
            refine tr_rg hP tabOk hsp fun A hA M hM => ?_
            cbv
            obtain ⟨ob1, H⟩ := ck_out H
            obtain ⟨ob2, H⟩ := ck_out H
            obtain ⟨ob3, H⟩ := ck_out H
            obtain ⟨ob4, H⟩ := ck_out H
            refine ⟨by subst hA; exact ob1, by subst hA; exact ob2, by subst hA; exact ob3, by subst hA; exact ob4, hM _ ?_⟩
            refine tr_keep [0, 8, 9, 66, 67, 68, 99] (σ' := mkSl 101 0 [(0, .val (.list (.int .u16)) .n t0_1), (8, .val (.int .i64) .n r_4.1), (9, .val (.int .i64) .n r_4.2.1), (66, .val (.list (.int .i64)) .n t1_2), (67, .val (.int .i64) .n t67_6), (68, .val (.int .i64) .n t68_7), (99, .val (.bool) .n ((t68_7 == t12_9) && (((arR .andNot .u16 (t0_1.getD r_4.1.toNat (0 : Int)) (t0_1.getD t68_7.toNat (0 : Int))) != (0 : Int)) || ((arR .andNot .u16 (t0_1.getD t68_7.toNat (0 : Int)) (t0_1.getD r_4.2.1.toNat (0 : Int))) != (0 : Int)))))]) (by subst hA; rfl) ?_
            clear ob4 ob3 ob2 ob1 hM hA M A
            refine tr_cond rfl (fun hc => ?_) (fun hc => ?_)
            · replace H := if_t H hc
              refine tr_keep [0, 8, 9, 66, 67, 68] (σ' := mkSl 101 0 [(0, .val (.list (.int .u16)) .n t0_1), (8, .val (.int .i64) .n r_4.1), (9, .val (.int .i64) .n r_4.2.1), (66, .val (.list (.int .i64)) .n t1_2), (67, .val (.int .i64) .n t67_6), (68, .val (.int .i64) .n t68_7)]) rfl ?_
              refine tr_seq ?_
              refine tr_rg hP tabOk hsp fun A hA M hM => ?_
              cbv
              refine hM _ ?_
              refine tr_ret ?_
              have hr := Option.some.inj H
              refine Exists.intro _ (And.intro hr.symm (fun hr => ?_))
              subst hr
              subst hA
              exact rfl
            · replace H := if_f H hc
              refine tr_keep [0, 8, 9, 66, 67, 68] (σ' := mkSl 101 0 [(0, .val (.list (.int .u16)) .n t0_1), (8, .val (.int .i64) .n r_4.1), (9, .val (.int .i64) .n r_4.2.1), (66, .val (.list (.int .i64)) .n t1_2), (67, .val (.int .i64) .n t67_6), (68, .val (.int .i64) .n t68_7)]) rfl ?_
              refine tr_skip ?_
              refine tr_rg hP tabOk hsp fun A hA M hM => ?_
              cbv
              refine hM _ ?_
              exact Exists.intro _ (And.intro (Option.some.inj H).symm (by subst hA; rfl))
          · replace H := if_f H hc
            refine tr_keep [0, 8, 9, 66, 67, 68] (σ' := mkSl 101 0 [(0, .val (.list (.int .u16)) .n t0_1), (8, .val (.int .i64) .n r_4.1), (9, .val (.int .i64) .n r_4.2.1), (66, .val (.list (.int .i64)) .n t1_2), (67, .val (.int .i64) .n t67_6), (68, .val (.int .i64) .n t68_7)]) rfl ?_
            refine tr_exit ?_
            exact And.intro rfl (Exists.intro _ (And.intro (Option.some.inj H).symm (by rfl)))
theorem LatStill_sp : ∃ (pg : PT.denL [.list (.int .u16), .list (.int .i64)] → Prop) (fg : PT.denL [.list (.int .u16), .list (.int .i64)] → PT.denL [.bool]), SpecRuns Try.prog 5 ⟨[.list (.int .u16), .list (.int .i64)], [.v, .v], [.bool], [.n], pg, fg⟩ ∧ (∀ {a1 : List Int} {a2 : List Int} {y : Bool}, LatStill a1 a2 = some y → pg (a1, a2, ()) ∧ y = (fg (a1, a2, ())).1) ∧ (∀ {a1 : List Int} {a2 : List Int}, (LatStill a1 a2).isSome = true → pg (a1, a2, ())) ∧ ∀ {a1 : List Int} {a2 : List Int}, (LatStill a1 a2).getD false = (fg (a1, a2, ())).1 := by
  obtain ⟨pg, fg, h, hc, hi, hd⟩ := spec_hide LatStill_runs
  refine ⟨pg, fg, h, ?_, ?_, ?_⟩
  · intro a1 a2 y e
    obtain ⟨h1, h2⟩ := hc (a1, a2, ()) (y, ()) (congrArg (Option.map fun r => (r, ())) e)
    exact ⟨h1, by first | (rw [h2]; done) | (rw [h2]; rfl)⟩
  · intro a1 a2
    intro e
    exact hi (a1, a2, ()) (map_isSome e)
  · intro a1 a2
    rw [hd (a1, a2, ())]
    cases LatStill a1 a2 <;> rfl
end Go.Proofs.Ytaachifkgcdeoaa.Lt
