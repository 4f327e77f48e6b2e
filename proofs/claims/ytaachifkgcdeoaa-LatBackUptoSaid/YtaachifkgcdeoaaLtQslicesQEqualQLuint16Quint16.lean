/- Functions of the program as functions that may fail, and that the code computes them (printed). Each theorem bears its conditions itself. -/
import Derived.Test.YtaachifkgcdeoaaLtDefs
import Derived.Test.YtaachifkgcdeoaaLtTab
open Go Go.Proofs.Ytaachifkgcdeoaa.Sy Go.Proofs
set_option maxHeartbeats 4000000
set_option maxRecDepth 100000
set_option cbv.maxSteps 10000000
set_option linter.unusedVariables false
set_option linter.unusedSimpArgs false
namespace Go.Proofs.Ytaachifkgcdeoaa.Lt
theorem slices_Equal_Luint16_uint16_runs : SpecRuns Try.prog 14 (oSpec [.list (.int .u16), .list (.int .u16)] [.v, .v] [.bool] [.n] fun x => (slices_Equal_Luint16_uint16 x.1 x.2.1).map fun r => (r, ())) := by
  have hsp : SpecsOk Try.prog [] := specsOk_nil
  refine runs_of_o tabOk Try.func14 rfl (Nat.le_of_ble_eq_true rfl) rfl ?_
  rintro E ⟨(s1_1 : List Int), (s2_2 : List Int), ⟨⟩⟩ y hP H hw
  obtain ⟨z, H1, rfl⟩ := map_out H
  replace H : slices_Equal_Luint16_uint16 s1_1 s2_2 = some z := H1
  clear hw H1
  unfold slices_Equal_Luint16_uint16 at H
  refine tr_keep [0, 1] (σ' := mkSl 26 0 [(0, .val (.list (.int .u16)) .n s1_1), (1, .val (.list (.int .u16)) .n s2_2)]) rfl ?_
  refine tr_seq ?_
  refine tr_rg hP tabOk hsp fun A hA M hM => ?_
  cbv
  refine hM _ ?_
  refine tr_seq ?_
  refine tr_seq ?_
  refine tr_keep [0, 1] (σ' := mkSl 26 0 [(0, .val (.list (.int .u16)) .n s1_1), (1, .val (.list (.int .u16)) .n s2_2)]) (by subst hA; rfl) ?_
  clear hM hA M A
  refine tr_rg hP tabOk hsp fun A hA M hM => ?_
  cbv
  refine hM _ ?_
  refine tr_keep [0, 1, 10] (σ' := mkSl 26 0 [(0, .val (.list (.int .u16)) .n s1_1), (1, .val (.list (.int .u16)) .n s2_2), (10, .val (.bool) .n ((s1_1.length : Int) != (s2_2.length : Int)))]) (by subst hA; rfl) ?_
  clear hM hA M A
  refine tr_cond rfl (fun hc => ?_) (fun hc => ?_)
  · replace H := if_t H hc
    refine tr_keep [0, 1] (σ' := mkSl 26 0 [(0, .val (.list (.int .u16)) .n s1_1), (1, .val (.list (.int .u16)) .n s2_2)]) rfl ?_
    refine tr_seq ?_
    refine tr_rg hP tabOk hsp fun A hA M hM => ?_
    cbv
    refine hM _ ?_
    refine tr_ret ?_
    have hr := Option.some.inj H
    subst hr
    subst hA
    exact rfl
  · replace H := if_f H hc
    refine tr_keep [0, 1] (σ' := mkSl 26 0 [(0, .val (.list (.int .u16)) .n s1_1), (1, .val (.list (.int .u16)) .n s2_2)]) rfl ?_
    refine tr_skip ?_
    refine tr_seq ?_
    refine tr_seq ?_
    refine tr_rg hP tabOk hsp fun A hA M hM => ?_
    cbv
    refine hM _ ?_
    refine tr_block ?_
    refine tr_keepL [0, 1, 12, 13] (fun t12_3 : Int => mkSl 26 0 [(0, .val (.list (.int .u16)) .n s1_1), (1, .val (.list (.int .u16)) .n s2_2), (12, .val (.int .i64) .n t12_3), (13, .val (.int .i64) .n (0 : Int))]) H (by subst hA; rfl) (fun t12_3 H => ?_)
    clear hM hA M A
    obtain ⟨q, hq, Hl, Hr⟩ := bindE_out H
    refine tr_loopE 0 (fun x : Int => slices_Equal_Luint16_uint16_L1 s1_1 s2_2 t12_3 x) (fun x : Int => mkSl 26 0 [(0, .val (.list (.int .u16)) .n s1_1), (1, .val (.list (.int .u16)) .n s2_2), (12, .val (.int .i64) .n t12_3), (13, .val (.int .i64) .n x)]) [0, 1, 12, 13] (fun q_5 : Unit => mkSl 26 0 []) [] hq rfl Hr (fun q_5 hl σ' h => ?_) (fun x r1 H => ?_)
    · replace H := Hl q_5 hl
      refine tr_keep [] h ?_
      refine tr_seq ?_
      refine tr_rg hP tabOk hsp fun A hA M hM => ?_
      cbv
      refine hM _ ?_
      refine tr_ret ?_
      have hr := Option.some.inj H
      subst hr
      subst hA
      exact rfl
    · obtain ⟨t13_4, rfl⟩ : ∃ v, v = x := ⟨x, rfl⟩
      replace H : slices_Equal_Luint16_uint16_L1 s1_1 s2_2 t12_3 t13_4 = some r1 := H
      unfold slices_Equal_Luint16_uint16_L1 at H
      refine tr_seq ?_
      refine tr_rg hP tabOk hsp fun A hA M hM => ?_
      cbv
      refine hM _ ?_
      refine tr_seq ?_
      refine tr_keep [0, 1, 12, 13, 14] (σ' := mkSl 26 0 [(0, .val (.list (.int .u16)) .n s1_1), (1, .val (.list (.int .u16)) .n s2_2), (12, .val (.int .i64) .n t12_3), (13, .val (.int .i64) .n t13_4), (14, .val (.bool) .n (decide (t13_4 < t12_3)))]) (by subst hA; rfl) ?_
      clear hM hA M A
      refine tr_cond rfl (fun hc => ?_) (fun hc => ?_)
      · replace H := if_t H hc
        refine tr_keep [0, 1, 12, 13] (σ' := mkSl 26 0 [(0, .val (.list (.int .u16)) .n s1_1), (1, .val (.list (.int .u16)) .n s2_2), (12, .val (.int .i64) .n t12_3), (13, .val (.int .i64) .n t13_4)]) rfl ?_
        refine tr_skip ?_
        refine tr_seq ?_
        refine tr_block ?_
        refine tr_seq ?_
        refine tr_rg hP tabOk hsp fun A hA M hM => ?_
        cbv
        refine hM _ ?_
        refine tr_seq ?_
        refine tr_keep [0, 1, 5, 12, 13] (σ' := mkSl 26 0 [(0, .val (.list (.int .u16)) .n s1_1), (1, .val (.list (.int .u16)) .n s2_2), (5, .val (.int .i64) .n t13_4), (12, .val (.int .i64) .n t12_3), (13, .val (.int .i64) .n t13_4)]) (by subst hA; rfl) ?_
        clear hM hA M A
        refine tr_rg hP tabOk hsp fun A hA M hM => ?_
        cbv
        obtain ⟨ob1, H⟩ := ck_out H
        obtain ⟨ob2, H⟩ := ck_out H
        refine ⟨by subst hA; exact ob1, by subst hA; exact ob2, hM _ ?_⟩
        refine tr_keep [0, 1, 12, 13, 24] (σ' := mkSl 26 0 [(0, .val (.list (.int .u16)) .n s1_1), (1, .val (.list (.int .u16)) .n s2_2), (12, .val (.int .i64) .n t12_3), (13, .val (.int .i64) .n t13_4), (24, .val (.bool) .n ((s1_1.getD t13_4.toNat (0 : Int)) != (s2_2.getD t13_4.toNat (0 : Int))))]) (by subst hA; rfl) ?_
        clear ob2 ob1 hM hA M A
        refine tr_cond rfl (fun hc => ?_) (fun hc => ?_)
        · replace H := if_t H hc
          refine tr_keep [0, 1, 12, 13] (σ' := mkSl 26 0 [(0, .val (.list (.int .u16)) .n s1_1), (1, .val (.list (.int .u16)) .n s2_2), (12, .val (.int .i64) .n t12_3), (13, .val (.int .i64) .n t13_4)]) rfl ?_
          refine tr_seq ?_
          refine tr_rg hP tabOk hsp fun A hA M hM => ?_
          cbv
          refine hM _ ?_
          refine tr_ret ?_
          have hr := Option.some.inj H
          refine Exists.intro _ (And.intro hr.symm (fun hr => ?_))
          subst hr
          subst hA
          exact rfl
        · replace H := if_f H hc
          refine tr_keep [0, 1, 12, 13] (σ' := mkSl 26 0 [(0, .val (.list (.int .u16)) .n s1_1), (1, .val (.list (.int .u16)) .n s2_2), (12, .val (.int .i64) .n t12_3), (13, .val (.int .i64) .n t13_4)]) rfl ?_
          refine tr_skip ?_
          refine tr_rg hP tabOk hsp fun A hA M hM => ?_
          cbv
          refine hM _ ?_
          exact Exists.intro _ (And.intro (Option.some.inj H).symm (by subst hA; rfl))
      · replace H := if_f H hc
        refine tr_keep [0, 1, 12, 13] (σ' := mkSl 26 0 [(0, .val (.list (.int .u16)) .n s1_1), (1, .val (.list (.int .u16)) .n s2_2), (12, .val (.int .i64) .n t12_3), (13, .val (.int .i64) .n t13_4)]) rfl ?_
        refine tr_exit ?_
        exact And.intro rfl (Exists.intro _ (And.intro (Option.some.inj H).symm (by rfl)))
theorem slices_Equal_Luint16_uint16_sp : ∃ (pg : PT.denL [.list (.int .u16), .list (.int .u16)] → Prop) (fg : PT.denL [.list (.int .u16), .list (.int .u16)] → PT.denL [.bool]), SpecRuns Try.prog 14 ⟨[.list (.int .u16), .list (.int .u16)], [.v, .v], [.bool], [.n], pg, fg⟩ ∧ (∀ {a1 : List Int} {a2 : List Int} {y : Bool}, slices_Equal_Luint16_uint16 a1 a2 = some y → pg (a1, a2, ()) ∧ y = (fg (a1, a2, ())).1) ∧ (∀ {a1 : List Int} {a2 : List Int}, (slices_Equal_Luint16_uint16 a1 a2).isSome = true → pg (a1, a2, ())) ∧ ∀ {a1 : List Int} {a2 : List Int}, (slices_Equal_Luint16_uint16 a1 a2).getD false = (fg (a1, a2, ())).1 := by
  obtain ⟨pg, fg, h, hc, hi, hd⟩ := spec_hide slices_Equal_Luint16_uint16_runs
  refine ⟨pg, fg, h, ?_, ?_, ?_⟩
  · intro a1 a2 y e
    obtain ⟨h1, h2⟩ := hc (a1, a2, ()) (y, ()) (congrArg (Option.map fun r => (r, ())) e)
    exact ⟨h1, by first | (rw [h2]; done) | (rw [h2]; rfl)⟩
  · intro a1 a2
    intro e
    exact hi (a1, a2, ()) (map_isSome e)
  · intro a1 a2
    rw [hd (a1, a2, ())]
    cases slices_Equal_Luint16_uint16 a1 a2 <;> rfl
end Go.Proofs.Ytaachifkgcdeoaa.Lt
