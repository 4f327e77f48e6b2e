/- Functions of the program as functions that may fail, and that the code computes them (printed). Each theorem bears its conditions itself. -/
import Derived.Test.YtcghecmefpldmaaVcDefs
import Derived.Test.YtcghecmefpldmaaVcTab
import Derived.Test.YtcghecmefpldmaaVcQstampQAhead
import Derived.Test.YtcghecmefpldmaaVcQslicesQEqualQLPairQPair
import Derived.Test.YtcghecmefpldmaaVcQstampQStamps
import Derived.Test.YtcghecmefpldmaaVcQslicesQContainsFuncQLPairQPairQ1Q25
open Go Go.Proofs.Ytcghecmefpldmaa.Sy Go.Proofs
set_option maxHeartbeats 4000000
set_option maxRecDepth 100000
set_option cbv.maxSteps 10000000
set_option linter.unusedVariables false
set_option linter.unusedSimpArgs false
namespace Go.Proofs.Ytcghecmefpldmaa.Vc
theorem StampLong_runs : SpecRuns Try.prog 10 (oSpec [.list (.st [.int .i64, .int .i64, .int .i64])] [.v] [.bool] [.n] fun x => (StampLong x.1).map fun r => (r, ())) := by
  obtain ⟨pg18, fg18, hs18, hc18, hi18, hd18⟩ := stamp_Ahead_sp
  obtain ⟨pg23, fg23, hs23, hc23, hi23, hd23⟩ := slices_Equal_LPair_Pair_sp
  obtain ⟨pg17, fg17, hs17, hc17, hi17, hd17⟩ := stamp_Stamps_sp
  obtain ⟨pg24c1_25, fg24c1_25, hs24c1_25, hc24c1_25, hi24c1_25, hd24c1_25⟩ := slices_ContainsFunc_LPair_Pair_1_25_sp
  have hsp : SpecsOk Try.prog [(18, ⟨[.list (.st [.int .i64, .int .i64, .int .i64])], [.v], [.list (.st [.int .i64, .int .i64]), .int .i64], [.l .n, .n], pg18, fg18⟩), (23, ⟨[.list (.st [.int .i64, .int .i64]), .list (.st [.int .i64, .int .i64])], [.v, .v], [.bool], [.n], pg23, fg23⟩), (17, ⟨[.list (.st [.int .i64, .int .i64, .int .i64])], [.v], [.list (.int .i64), .int .i64], [.l .n, .n], pg17, fg17⟩), (24, ⟨[.list (.st [.int .i64, .int .i64]), .st [.int .i64, .list (.int .i64), .int .i64]], [.v, .c 25 [.n, .n, .n]], [.bool], [.n], pg24c1_25, fg24c1_25⟩)] := (specsOk_cons Try.func18 (by kernel_rfl) (by kernel_rfl) hs18 (specsOk_cons Try.func23 (by kernel_rfl) (by kernel_rfl) hs23 (specsOk_cons Try.func17 (by kernel_rfl) (by kernel_rfl) hs17 (specsOk_cons Try.func24 (by kernel_rfl) (by kernel_rfl) hs24c1_25 specsOk_nil))))
  refine runs_of_o tabOk Try.func10 rfl (Nat.le_of_ble_eq_true rfl) rfl ?_
  rintro E ⟨(h_1 : List ((Int × Int × Int × Unit))), ⟨⟩⟩ y hP H hw
  obtain ⟨z, H1, rfl⟩ := map_out H
  replace H : StampLong h_1 = some z := H1
  clear hw H1
  unfold StampLong at H
  refine tr_keep [0] (σ' := mkSl 62 0 [(0, .val (.list (.st [.int .i64, .int .i64, .int .i64])) .n h_1)]) rfl ?_
  refine tr_seq ?_
  refine tr_rg hP tabOk hsp fun A hA M hM => ?_
  cbv
  refine hM _ ?_
  refine tr_seq ?_
  refine tr_seq ?_
  refine tr_keep [0] (σ' := mkSl 62 0 [(0, .val (.list (.st [.int .i64, .int .i64, .int .i64])) .n h_1)]) (by subst hA; rfl) ?_
  clear hM hA M A
  refine tr_rg hP tabOk hsp fun A hA M hM => ?_
  cbv
  obtain ⟨r_2, hr1, H⟩ := bind_out H
  obtain ⟨pq1, eq1⟩ := hc18 hr1
  refine ⟨by subst hA; subst eq1; exact pq1, hM _ ?_⟩
  refine tr_seq ?_
  refine tr_keep [0, 3, 4] (σ' := mkSl 62 0 [(0, .val (.list (.st [.int .i64, .int .i64, .int .i64])) .n h_1), (3, .val (.list (.st [.int .i64, .int .i64])) (.l .n) r_2.1), (4, .val (.int .i64) .n r_2.2)]) (by subst hA; subst eq1; rfl) ?_
  clear pq1 eq1 hr1 hM hA M A
  refine tr_rg hP tabOk hsp fun A hA M hM => ?_
  cbv
  obtain ⟨r_3, er1, H⟩ := letO_out H
  obtain ⟨ob1, H⟩ := ck_out H
  have eq1 := er1.trans hd23
  refine ⟨by subst hA; subst eq1; exact fun h0 => hi23 (ob1 h0), hM _ ?_⟩
  refine tr_keep [0, 26] (σ' := mkSl 62 0 [(0, .val (.list (.st [.int .i64, .int .i64, .int .i64])) .n h_1), (26, .val (.bool) .n ((r_2.2 != (0 : Int)) || (!r_3)))]) (by subst hA; subst eq1; rfl) ?_
  clear ob1 eq1 er1 hM hA M A
  refine tr_cond rfl (fun hc => ?_) (fun hc => ?_)
  · replace H := if_t H hc
    refine tr_keep [0] (σ' := mkSl 62 0 [(0, .val (.list (.st [.int .i64, .int .i64, .int .i64])) .n h_1)]) rfl ?_
    refine tr_seq ?_
    refine tr_rg hP tabOk hsp fun A hA M hM => ?_
    cbv
    refine hM _ ?_
    refine tr_ret ?_
    have hr := Option.some.inj H
    subst hr
    subst hA
    exact rfl
  · replace H := if_f H hc
    refine tr_keep [0] (σ' := mkSl 62 0 [(0, .val (.list (.st [.int .i64, .int .i64, .int .i64])) .n h_1)]) rfl ?_
    refine tr_skip ?_
    refine tr_seq ?_
    refine tr_rg hP tabOk hsp fun A hA M hM => ?_
    cbv
    obtain ⟨r_4, hr1, H⟩ := bind_out H
    obtain ⟨pq1, eq1⟩ := hc17 hr1
    refine ⟨by subst hA; subst eq1; exact pq1, hM _ ?_⟩
    refine tr_seq ?_
    refine tr_keep [0, 5, 6] (σ' := mkSl 62 0 [(0, .val (.list (.st [.int .i64, .int .i64, .int .i64])) .n h_1), (5, .val (.box (.list (.int .i64))) (.b (.l .n)) r_4.1), (6, .val (.int .i64) .n r_4.2)]) (by subst hA; subst eq1; rfl) ?_
    clear pq1 eq1 hr1 hM hA M A
    refine tr_rg hP tabOk hsp fun A hA M hM => ?_
    cbv
    obtain ⟨r_5, hr1, H⟩ := bind_out H
    obtain ⟨pq1, eq1⟩ := hc18 hr1
    refine ⟨by subst hA; subst eq1; exact pq1, hM _ ?_⟩
    refine tr_seq ?_
    refine tr_seq ?_
    refine tr_keep [5, 6, 7, 8] (σ' := mkSl 62 0 [(5, .val (.box (.list (.int .i64))) (.b (.l .n)) r_4.1), (6, .val (.int .i64) .n r_4.2), (7, .val (.list (.st [.int .i64, .int .i64])) (.l .n) r_5.1), (8, .val (.int .i64) .n r_5.2)]) (by subst hA; subst eq1; rfl) ?_
    clear pq1 eq1 hr1 hM hA M A
    refine tr_rg hP tabOk hsp fun A hA M hM => ?_
    cbv
    refine hM _ ?_
    refine tr_keep [5, 6, 7, 8, 42] (σ' := mkSl 62 0 [(5, .val (.box (.list (.int .i64))) (.b (.l .n)) r_4.1), (6, .val (.int .i64) .n r_4.2), (7, .val (.list (.st [.int .i64, .int .i64])) (.l .n) r_5.1), (8, .val (.int .i64) .n r_5.2), (42, .val (.bool) .n ((r_4.2 != (0 : Int)) || (r_5.2 != (0 : Int))))]) (by subst hA; rfl) ?_
    clear hM hA M A
    refine tr_cond rfl (fun hc => ?_) (fun hc => ?_)
    · replace H := if_t H hc
      refine tr_keep [5, 6, 7, 8] (σ' := mkSl 62 0 [(5, .val (.box (.list (.int .i64))) (.b (.l .n)) r_4.1), (6, .val (.int .i64) .n r_4.2), (7, .val (.list (.st [.int .i64, .int .i64])) (.l .n) r_5.1), (8, .val (.int .i64) .n r_5.2)]) rfl ?_
      refine tr_seq ?_
      refine tr_rg hP tabOk hsp fun A hA M hM => ?_
      cbv
      refine hM _ ?_
      refine tr_ret ?_
      have hr := Option.some.inj H
      subst hr
      subst hA
      exact rfl
    · replace H := if_f H hc
      refine tr_keep [5, 6, 7, 8] (σ' := mkSl 62 0 [(5, .val (.box (.list (.int .i64))) (.b (.l .n)) r_4.1), (6, .val (.int .i64) .n r_4.2), (7, .val (.list (.st [.int .i64, .int .i64])) (.l .n) r_5.1), (8, .val (.int .i64) .n r_5.2)]) rfl ?_
      refine tr_skip ?_
      refine tr_seq ?_
      refine tr_seq ?_
      refine tr_rg hP tabOk hsp fun A hA M hM => ?_
      cbv
      refine hM _ ?_
      refine tr_block ?_
      refine tr_keepL [5, 7, 46, 47, 48] (fun t47_6 : Int => mkSl 62 0 [(5, .val (.box (.list (.int .i64))) (.b (.l .n)) r_4.1), (7, .val (.list (.st [.int .i64, .int .i64])) (.l .n) r_5.1), (46, .bor 5 [.d]), (47, .val (.int .i64) .n t47_6), (48, .val (.int .i64) .n (0 : Int))]) H (by subst hA; rfl) (fun t47_6 H => ?_)
      clear hM hA M A
      obtain ⟨q, hq, Hl, Hr⟩ := bindE_out H
      refine tr_loopE 0 (fun x : Int => StampLong_L1 r_4 r_5 t47_6 x) (fun x : Int => mkSl 62 0 [(5, .val (.box (.list (.int .i64))) (.b (.l .n)) r_4.1), (7, .val (.list (.st [.int .i64, .int .i64])) (.l .n) r_5.1), (46, .bor 5 [.d]), (47, .val (.int .i64) .n t47_6), (48, .val (.int .i64) .n x)]) [5, 7, 46, 47, 48] (fun q_8 : Unit => mkSl 62 0 []) [] hq rfl Hr (fun q_8 hl σ' h => ?_) (fun x r1 H => ?_)
      · replace H := Hl q_8 hl
        refine tr_keep [] h ?_
        refine tr_seq ?_
        refine tr_rg hP tabOk hsp fun A hA M hM => ?_
        cbv
        refine hM _ ?_
        refine tr_ret ?_
        have hr := Option.some.inj H
        subst hr
        subst hA
        exact rfl
      · obtain ⟨t48_7, rfl⟩ : ∃ v, v = x := ⟨x, rfl⟩
        replace H : StampLong_L1 r_4 r_5 t47_6 t48_7 = some r1 := H
        unfold StampLong_L1 at H
        refine tr_seq ?_
        refine tr_rg hP tabOk hsp fun A hA M hM => ?_
        cbv
        refine hM _ ?_
        refine tr_seq ?_
        refine tr_keep [5, 7, 46, 47, 48, 49] (σ' := mkSl 62 0 [(5, .val (.box (.list (.int .i64))) (.b (.l .n)) r_4.1), (7, .val (.list (.st [.int .i64, .int .i64])) (.l .n) r_5.1), (46, .bor 5 [.d]), (47, .val (.int .i64) .n t47_6), (48, .val (.int .i64) .n t48_7), (49, .val (.bool) .n (decide (t48_7 < t47_6)))]) (by subst hA; rfl) ?_
        clear hM hA M A
        refine tr_cond rfl (fun hc => ?_) (fun hc => ?_)
        · replace H := if_t H hc
          refine tr_keep [5, 7, 46, 47, 48] (σ' := mkSl 62 0 [(5, .val (.box (.list (.int .i64))) (.b (.l .n)) r_4.1), (7, .val (.list (.st [.int .i64, .int .i64])) (.l .n) r_5.1), (46, .bor 5 [.d]), (47, .val (.int .i64) .n t47_6), (48, .val (.int .i64) .n t48_7)]) rfl ?_
          refine tr_skip ?_
          refine tr_seq ?_
          refine tr_block ?_
          refine tr_seq ?_
          refine tr_rg hP tabOk hsp fun A hA M hM => ?_
          cbv
          obtain ⟨ob1, H⟩ := ck_out H
          refine ⟨by subst hA; exact ob1, hM _ ?_⟩
          refine tr_seq ?_
          refine tr_keepL [5, 7, 9, 10, 46, 47, 48] (fun n_9 : Int => mkSl 62 0 [(5, .val (.box (.list (.int .i64))) (.b (.l .n)) r_4.1), (7, .val (.list (.st [.int .i64, .int .i64])) (.l .n) r_5.1), (9, .val (.box (.int .i64)) (.b .n) t48_7), (10, .val (.box (.int .i64)) (.b .n) n_9), (46, .bor 5 [.d]), (47, .val (.int .i64) .n t47_6), (48, .val (.int .i64) .n t48_7)]) H (by subst hA; rfl) (fun n_9 H => ?_)
          clear ob1 hM hA M A
          refine tr_rg hP tabOk hsp fun A hA M hM => ?_
          cbv
          obtain ⟨r_10, er1, H⟩ := letO_out H
          obtain ⟨ob1, H⟩ := ck_out H
          have eq1 := er1.trans hd24c1_25
          refine ⟨by subst hA; subst eq1; exact fun h0 => hi24c1_25 (ob1 h0), hM _ ?_⟩
          refine tr_keep [5, 7, 46, 47, 48, 60] (σ' := mkSl 62 0 [(5, .val (.box (.list (.int .i64))) (.b (.l .n)) r_4.1), (7, .val (.list (.st [.int .i64, .int .i64])) (.l .n) r_5.1), (46, .bor 5 [.d]), (47, .val (.int .i64) .n t47_6), (48, .val (.int .i64) .n t48_7), (60, .val (.bool) .n ((decide (n_9 > (1 : Int))) && (!r_10)))]) (by subst hA; subst eq1; rfl) ?_
          clear ob1 eq1 er1 hM hA M A
          refine tr_cond rfl (fun hc => ?_) (fun hc => ?_)
          · replace H := if_t H hc
            refine tr_keep [5, 7, 46, 47, 48] (σ' := mkSl 62 0 [(5, .val (.box (.list (.int .i64))) (.b (.l .n)) r_4.1), (7, .val (.list (.st [.int .i64, .int .i64])) (.l .n) r_5.1), (46, .bor 5 [.d]), (47, .val (.int .i64) .n t47_6), (48, .val (.int .i64) .n t48_7)]) rfl ?_
            refine tr_seq ?_
            refine tr_rg hP tabOk hsp fun A hA M hM => ?_
            cbv
            refine hM _ ?_
            refine tr_ret ?_
            have hr := Option.some.inj H
            refine Exists.intro _ (And.intro hr.symm (fun hr => ?_))
            subst hr
            subst hA
            exact rfl
          · replace H := if_f H hc
            refine tr_keep [5, 7, 46, 47, 48] (σ' := mkSl 62 0 [(5, .val (.box (.list (.int .i64))) (.b (.l .n)) r_4.1), (7, .val (.list (.st [.int .i64, .int .i64])) (.l .n) r_5.1), (46, .bor 5 [.d]), (47, .val (.int .i64) .n t47_6), (48, .val (.int .i64) .n t48_7)]) rfl ?_
            refine tr_skip ?_
            refine tr_rg hP tabOk hsp fun A hA M hM => ?_
            cbv
            refine hM _ ?_
            exact Exists.intro _ (And.intro (Option.some.inj H).symm (by subst hA; rfl))
        · replace H := if_f H hc
          refine tr_keep [5, 7, 46, 47, 48] (σ' := mkSl 62 0 [(5, .val (.box (.list (.int .i64))) (.b (.l .n)) r_4.1), (7, .val (.list (.st [.int .i64, .int .i64])) (.l .n) r_5.1), (46, .bor 5 [.d]), (47, .val (.int .i64) .n t47_6), (48, .val (.int .i64) .n t48_7)]) rfl ?_
          refine tr_exit ?_
          exact And.intro rfl (Exists.intro _ (And.intro (Option.some.inj H).symm (by rfl)))
theorem StampLong_sp : ∃ (pg : PT.denL [.list (.st [.int .i64, .int .i64, .int .i64])] → Prop) (fg : PT.denL [.list (.st [.int .i64, .int .i64, .int .i64])] → PT.denL [.bool]), SpecRuns Try.prog 10 ⟨[.list (.st [.int .i64, .int .i64, .int .i64])], [.v], [.bool], [.n], pg, fg⟩ ∧ (∀ {a1 : List ((Int × Int × Int × Unit))} {y : Bool}, StampLong a1 = some y → pg (a1, ()) ∧ y = (fg (a1, ())).1) ∧ (∀ {a1 : List ((Int × Int × Int × Unit))}, (StampLong a1).isSome = true → pg (a1, ())) ∧ ∀ {a1 : List ((Int × Int × Int × Unit))}, (StampLong a1).getD false = (fg (a1, ())).1 := by
  obtain ⟨pg, fg, h, hc, hi, hd⟩ := spec_hide StampLong_runs
  refine ⟨pg, fg, h, ?_, ?_, ?_⟩
  · intro a1 y e
    obtain ⟨h1, h2⟩ := hc (a1, ()) (y, ()) (congrArg (Option.map fun r => (r, ())) e)
    exact ⟨h1, by first | (rw [h2]; done) | (rw [h2]; rfl)⟩
  · intro a1
    intro e
    exact hi (a1, ()) (map_isSome e)
  · intro a1
    rw [hd (a1, ())]
    cases StampLong a1 <;> rfl
end Go.Proofs.Ytcghecmefpldmaa.Vc
