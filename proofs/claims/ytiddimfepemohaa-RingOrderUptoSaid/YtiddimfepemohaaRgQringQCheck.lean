/- Functions of the program as functions that may fail, and that the code computes them (printed). Each theorem bears its conditions itself. -/
import Derived.Test.YtiddimfepemohaaRgDefs
import Derived.Test.YtiddimfepemohaaRgTab
import Derived.Test.YtiddimfepemohaaRgQslicesQContainsQLintQint
open Go Go.Proofs.Ytiddimfepemohaa.Sy Go.Proofs
set_option maxHeartbeats 4000000
set_option maxRecDepth 100000
set_option cbv.maxSteps 10000000
set_option linter.unusedVariables false
set_option linter.unusedSimpArgs false
namespace Go.Proofs.Ytiddimfepemohaa.Rg
theorem ring_Check_runs : SpecRuns Try.prog 13 (oSpec [.list (.int .i64)] [.v] [.int .i64] [.n] fun x => (ring_Check x.1).map fun r => (r, ())) := by
  obtain ⟨pg16, fg16, hs16, hc16, hi16, hd16⟩ := slices_Contains_Lint_int_sp
  have hsp : SpecsOk Try.prog [(16, ⟨[.list (.int .i64), .int .i64], [.v, .v], [.bool], [.n], pg16, fg16⟩)] := (specsOk_cons Try.func16 (by kernel_rfl) (by kernel_rfl) hs16 specsOk_nil)
  refine runs_of_o tabOk Try.func13 rfl (Nat.le_of_ble_eq_true rfl) rfl ?_
  rintro E ⟨(l_1 : List Int), ⟨⟩⟩ y hP H hw
  obtain ⟨z, H1, rfl⟩ := map_out H
  replace H : ring_Check l_1 = some z := H1
  clear hw H1
  unfold ring_Check at H
  refine tr_keep [0] (σ' := mkSl 32 0 [(0, .val (.list (.int .i64)) .n l_1)]) rfl ?_
  refine tr_seq ?_
  refine tr_rg hP tabOk hsp fun A hA M hM => ?_
  cbv
  refine hM _ ?_
  refine tr_seq ?_
  refine tr_seq ?_
  refine tr_keep [0] (σ' := mkSl 32 0 [(0, .val (.list (.int .i64)) .n l_1)]) (by subst hA; rfl) ?_
  clear hM hA M A
  refine tr_rg hP tabOk hsp fun A hA M hM => ?_
  cbv
  refine hM _ ?_
  refine tr_keep [0, 12] (σ' := mkSl 32 0 [(0, .val (.list (.int .i64)) .n l_1), (12, .val (.bool) .n ((decide ((l_1.length : Int) < (1 : Int))) || (decide ((l_1.length : Int) > (30 : Int)))))]) (by subst hA; rfl) ?_
  clear hM hA M A
  refine tr_cond rfl (fun hc => ?_) (fun hc => ?_)
  · replace H := if_t H hc
    refine tr_keep [0] (σ' := mkSl 32 0 [(0, .val (.list (.int .i64)) .n l_1)]) rfl ?_
    refine tr_seq ?_
    refine tr_rg hP tabOk hsp fun A hA M hM => ?_
    cbv
    refine hM _ ?_
    refine tr_ret ?_
    have hr := Option.some.inj H
    subst hr
    subst hA
    exact rfl
  · replace H := if_f H hc
    refine tr_keep [0] (σ' := mkSl 32 0 [(0, .val (.list (.int .i64)) .n l_1)]) rfl ?_
    refine tr_skip ?_
    refine tr_seq ?_
    refine tr_seq ?_
    refine tr_rg hP tabOk hsp fun A hA M hM => ?_
    cbv
    refine hM _ ?_
    refine tr_block ?_
    refine tr_keepL [0, 13, 14, 15] (fun t14_2 : Int => mkSl 32 0 [(0, .val (.list (.int .i64)) .n l_1), (13, .val (.list (.int .i64)) .n l_1), (14, .val (.int .i64) .n t14_2), (15, .val (.int .i64) .n (0 : Int))]) H (by subst hA; rfl) (fun t14_2 H => ?_)
    clear hM hA M A
    obtain ⟨q, hq, Hl, Hr⟩ := bindE_out H
    refine tr_loopE 0 (fun x : Int => ring_Check_L1 l_1 t14_2 x) (fun x : Int => mkSl 32 0 [(0, .val (.list (.int .i64)) .n l_1), (13, .val (.list (.int .i64)) .n l_1), (14, .val (.int .i64) .n t14_2), (15, .val (.int .i64) .n x)]) [0, 13, 14, 15] (fun q_4 : Unit => mkSl 32 0 []) [] hq rfl Hr (fun q_4 hl σ' h => ?_) (fun x r1 H => ?_)
    · replace H := Hl q_4 hl
      refine tr_keep [] h ?_
      refine tr_seq ?_
      refine tr_rg hP tabOk hsp fun A hA M hM => ?_
      cbv
      refine hM _ ?_
      refine tr_ret ?_
      have hr := Option.some.inj H
      subst hr
      subst hA
      exact rfl
    · obtain ⟨t15_3, rfl⟩ : ∃ v, v = x := ⟨x, rfl⟩
      replace H : ring_Check_L1 l_1 t14_2 t15_3 = some r1 := H
      unfold ring_Check_L1 at H
      refine tr_seq ?_
      refine tr_rg hP tabOk hsp fun A hA M hM => ?_
      cbv
      refine hM _ ?_
      refine tr_seq ?_
      refine tr_keep [0, 13, 14, 15, 16] (σ' := mkSl 32 0 [(0, .val (.list (.int .i64)) .n l_1), (13, .val (.list (.int .i64)) .n l_1), (14, .val (.int .i64) .n t14_2), (15, .val (.int .i64) .n t15_3), (16, .val (.bool) .n (decide (t15_3 < t14_2)))]) (by subst hA; rfl) ?_
      clear hM hA M A
      refine tr_cond rfl (fun hc => ?_) (fun hc => ?_)
      · replace H := if_t H hc
        refine tr_keep [0, 13, 14, 15] (σ' := mkSl 32 0 [(0, .val (.list (.int .i64)) .n l_1), (13, .val (.list (.int .i64)) .n l_1), (14, .val (.int .i64) .n t14_2), (15, .val (.int .i64) .n t15_3)]) rfl ?_
        refine tr_skip ?_
        refine tr_seq ?_
        refine tr_block ?_
        refine tr_seq ?_
        refine tr_rg hP tabOk hsp fun A hA M hM => ?_
        cbv
        obtain ⟨ob1, H⟩ := ck_out H
        refine ⟨by subst hA; exact ob1, hM _ ?_⟩
        refine tr_seq ?_
        refine tr_seq ?_
        refine tr_keepL [0, 3, 4, 13, 14, 15] (fun x_5 : Int => mkSl 32 0 [(0, .val (.list (.int .i64)) .n l_1), (3, .val (.int .i64) .n t15_3), (4, .val (.int .i64) .n x_5), (13, .val (.list (.int .i64)) .n l_1), (14, .val (.int .i64) .n t14_2), (15, .val (.int .i64) .n t15_3)]) H (by subst hA; rfl) (fun x_5 H => ?_)
        clear ob1 hM hA M A
        refine tr_rg hP tabOk hsp fun A hA M hM => ?_
        cbv
        refine hM _ ?_
        refine tr_keep [0, 3, 4, 13, 14, 15, 25] (σ' := mkSl 32 0 [(0, .val (.list (.int .i64)) .n l_1), (3, .val (.int .i64) .n t15_3), (4, .val (.int .i64) .n x_5), (13, .val (.list (.int .i64)) .n l_1), (14, .val (.int .i64) .n t14_2), (15, .val (.int .i64) .n t15_3), (25, .val (.bool) .n ((decide (x_5 < (0 : Int))) || (decide (x_5 > (16777215 : Int)))))]) (by subst hA; rfl) ?_
        clear hM hA M A
        refine tr_cond rfl (fun hc => ?_) (fun hc => ?_)
        · replace H := if_t H hc
          refine tr_keep [0, 3, 4, 13, 14, 15] (σ' := mkSl 32 0 [(0, .val (.list (.int .i64)) .n l_1), (3, .val (.int .i64) .n t15_3), (4, .val (.int .i64) .n x_5), (13, .val (.list (.int .i64)) .n l_1), (14, .val (.int .i64) .n t14_2), (15, .val (.int .i64) .n t15_3)]) rfl ?_
          refine tr_seq ?_
          refine tr_rg hP tabOk hsp fun A hA M hM => ?_
          cbv
          refine hM _ ?_
          refine tr_ret ?_
          have hr := Option.some.inj H
          refine Exists.intro _ (And.intro hr.symm (fun hr => ?_))
          subst hr
          subst hA
          exact rfl
        · replace H := if_f H hc
          refine tr_keep [0, 3, 4, 13, 14, 15] (σ' := mkSl 32 0 [(0, .val (.list (.int .i64)) .n l_1), (3, .val (.int .i64) .n t15_3), (4, .val (.int .i64) .n x_5), (13, .val (.list (.int .i64)) .n l_1), (14, .val (.int .i64) .n t14_2), (15, .val (.int .i64) .n t15_3)]) rfl ?_
          refine tr_skip ?_
          refine tr_seq ?_
          refine tr_rg hP tabOk hsp fun A hA M hM => ?_
          cbv
          obtain ⟨ob1, H⟩ := ck_out H
          obtain ⟨r_6, hr2, H⟩ := bind_out H
          obtain ⟨pq2, eq2⟩ := hc16 hr2
          refine ⟨by subst hA; exact ob1, by subst hA; subst eq2; exact pq2, hM _ ?_⟩
          refine tr_keep [0, 13, 14, 15, 30] (σ' := mkSl 32 0 [(0, .val (.list (.int .i64)) .n l_1), (13, .val (.list (.int .i64)) .n l_1), (14, .val (.int .i64) .n t14_2), (15, .val (.int .i64) .n t15_3), (30, .val (.bool) .n r_6)]) (by subst hA; subst eq2; rfl) ?_
          clear pq2 eq2 hr2 ob1 hM hA M A
          refine tr_cond rfl (fun hc => ?_) (fun hc => ?_)
          · replace H := if_t H hc
            refine tr_seq ?_
            refine tr_rg hP tabOk hsp fun A hA M hM => ?_
            cbv
            refine hM _ ?_
            refine tr_ret ?_
            have hr := Option.some.inj H
            refine Exists.intro _ (And.intro hr.symm (fun hr => ?_))
            subst hr
            subst hA
            exact rfl
          · replace H := if_f H hc
            refine tr_skip ?_
            refine tr_rg hP tabOk hsp fun A hA M hM => ?_
            cbv
            refine hM _ ?_
            exact Exists.intro _ (And.intro (Option.some.inj H).symm (by subst hA; rfl))
      · replace H := if_f H hc
        refine tr_keep [0, 13, 14, 15] (σ' := mkSl 32 0 [(0, .val (.list (.int .i64)) .n l_1), (13, .val (.list (.int .i64)) .n l_1), (14, .val (.int .i64) .n t14_2), (15, .val (.int .i64) .n t15_3)]) rfl ?_
        refine tr_exit ?_
        exact And.intro rfl (Exists.intro _ (And.intro (Option.some.inj H).symm (by rfl)))
theorem ring_Check_sp : ∃ (pg : PT.denL [.list (.int .i64)] → Prop) (fg : PT.denL [.list (.int .i64)] → PT.denL [.int .i64]), SpecRuns Try.prog 13 ⟨[.list (.int .i64)], [.v], [.int .i64], [.n], pg, fg⟩ ∧ (∀ {a1 : List Int} {y : Int}, ring_Check a1 = some y → pg (a1, ()) ∧ y = (fg (a1, ())).1) ∧ (∀ {a1 : List Int}, (ring_Check a1).isSome = true → pg (a1, ())) ∧ ∀ {a1 : List Int}, (ring_Check a1).getD (0 : Int) = (fg (a1, ())).1 := by
  obtain ⟨pg, fg, h, hc, hi, hd⟩ := spec_hide ring_Check_runs
  refine ⟨pg, fg, h, ?_, ?_, ?_⟩
  · intro a1 y e
    obtain ⟨h1, h2⟩ := hc (a1, ()) (y, ()) (congrArg (Option.map fun r => (r, ())) e)
    exact ⟨h1, by first | (rw [h2]; done) | (rw [h2]; rfl)⟩
  · intro a1
    intro e
    exact hi (a1, ()) (map_isSome e)
  · intro a1
    rw [hd (a1, ())]
    cases ring_Check a1 <;> rfl
end Go.Proofs.Ytiddimfepemohaa.Rg
