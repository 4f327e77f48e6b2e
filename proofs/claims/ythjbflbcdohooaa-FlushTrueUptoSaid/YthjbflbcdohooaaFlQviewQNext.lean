/- Functions of the program as functions that may fail, and that the code computes them (printed). Each theorem bears its conditions itself. -/
import Derived.Test.YthjbflbcdohooaaFlDefs
import Derived.Test.YthjbflbcdohooaaFlTab
import Derived.Test.YthjbflbcdohooaaFlQviewQCheck
import Derived.Test.YthjbflbcdohooaaFlQmathQbitsQOnesCount8
open Go Go.Proofs.Ythjbflbcdohooaa.Sy Go.Proofs
set_option maxHeartbeats 4000000
set_option maxRecDepth 100000
set_option cbv.maxSteps 10000000
set_option linter.unusedVariables false
set_option linter.unusedSimpArgs false
namespace Go.Proofs.Ythjbflbcdohooaa.Fl
theorem view_Next_runs : SpecRuns Try.prog 23 (oSpec [.st [.int .i64, .int .u8], .int .u8, .int .u8] [.v, .v, .v] [.st [.int .i64, .int .u8], .int .i64] [.n, .n] fun x => (view_Next x.1 x.2.1 x.2.2.1).map fun r => (r.1, r.2, ())) := by
  obtain ⟨pg22, fg22, hs22, hc22, hi22, hd22⟩ := view_Check_sp
  obtain ⟨pg29, fg29, hs29, hc29, hi29, hd29⟩ := math_bits_OnesCount8_sp
  have hsp : SpecsOk Try.prog [(22, ⟨[.st [.int .i64, .int .u8]], [.v], [.int .i64], [.n], pg22, fg22⟩), (29, ⟨[.int .u8], [.v], [.int .i64], [.n], pg29, fg29⟩)] := (specsOk_cons Try.func22 (by kernel_rfl) (by kernel_rfl) hs22 (specsOk_cons Try.func29 (by kernel_rfl) (by kernel_rfl) hs29 specsOk_nil))
  refine runs_of_o tabOk Try.func23 rfl (Nat.le_of_ble_eq_true rfl) rfl ?_
  rintro E ⟨(v_1 : (Int × Int × Unit)), (gone_2 : Int), (come_3 : Int), ⟨⟩⟩ y hP H hw
  obtain ⟨z, H1, rfl⟩ := map_out H
  replace H : view_Next v_1 gone_2 come_3 = some z := H1
  clear hw H1
  unfold view_Next at H
  refine tr_keep [0, 1, 2] (σ' := mkSl 51 0 [(0, .val (.st [.int .i64, .int .u8]) .n v_1), (1, .val (.int .u8) .n gone_2), (2, .val (.int .u8) .n come_3)]) rfl ?_
  refine tr_seq ?_
  refine tr_rg hP tabOk hsp fun A hA M hM => ?_
  cbv
  refine hM _ ?_
  refine tr_seq ?_
  refine tr_seq ?_
  refine tr_keep [1, 2, 3, 6] (σ' := mkSl 51 0 [(1, .val (.int .u8) .n gone_2), (2, .val (.int .u8) .n come_3), (3, .val (.box (.st [.int .i64, .int .u8])) (.b .n) v_1), (6, .val (.box (.st [.int .i64, .int .u8])) (.b .n) ((0 : Int), (0 : Int), ()))]) (by subst hA; rfl) ?_
  clear hM hA M A
  refine tr_rg hP tabOk hsp fun A hA M hM => ?_
  cbv
  obtain ⟨r_4, hr1, H⟩ := bind_out H
  obtain ⟨pq1, eq1⟩ := hc22 hr1
  refine ⟨by subst hA; subst eq1; exact pq1, hM _ ?_⟩
  refine tr_seq ?_
  refine tr_keep [1, 2, 3, 6, 8] (σ' := mkSl 51 0 [(1, .val (.int .u8) .n gone_2), (2, .val (.int .u8) .n come_3), (3, .val (.box (.st [.int .i64, .int .u8])) (.b .n) v_1), (6, .val (.box (.st [.int .i64, .int .u8])) (.b .n) ((0 : Int), (0 : Int), ())), (8, .val (.int .i64) .n r_4)]) (by subst hA; subst eq1; rfl) ?_
  clear pq1 eq1 hr1 hM hA M A
  refine tr_rg hP tabOk hsp fun A hA M hM => ?_
  cbv
  refine hM _ ?_
  refine tr_keep [1, 2, 3, 6, 8, 13] (σ' := mkSl 51 0 [(1, .val (.int .u8) .n gone_2), (2, .val (.int .u8) .n come_3), (3, .val (.box (.st [.int .i64, .int .u8])) (.b .n) v_1), (6, .val (.box (.st [.int .i64, .int .u8])) (.b .n) ((0 : Int), (0 : Int), ())), (8, .val (.int .i64) .n r_4), (13, .val (.bool) .n (r_4 != (0 : Int)))]) (by subst hA; rfl) ?_
  clear hM hA M A
  refine tr_cond rfl (fun hc => ?_) (fun hc => ?_)
  · replace H := if_t H hc
    refine tr_keep [1, 2, 3, 6, 8] (σ' := mkSl 51 0 [(1, .val (.int .u8) .n gone_2), (2, .val (.int .u8) .n come_3), (3, .val (.box (.st [.int .i64, .int .u8])) (.b .n) v_1), (6, .val (.box (.st [.int .i64, .int .u8])) (.b .n) ((0 : Int), (0 : Int), ())), (8, .val (.int .i64) .n r_4)]) rfl ?_
    refine tr_seq ?_
    refine tr_rg hP tabOk hsp fun A hA M hM => ?_
    cbv
    refine hM _ ?_
    refine tr_ret ?_
    have hr := Option.some.inj H
    subst hr
    subst hA
    exact rfl
  · replace H := if_f H hc
    refine tr_keep [1, 2, 3, 6, 8] (σ' := mkSl 51 0 [(1, .val (.int .u8) .n gone_2), (2, .val (.int .u8) .n come_3), (3, .val (.box (.st [.int .i64, .int .u8])) (.b .n) v_1), (6, .val (.box (.st [.int .i64, .int .u8])) (.b .n) ((0 : Int), (0 : Int), ())), (8, .val (.int .i64) .n r_4)]) rfl ?_
    refine tr_skip ?_
    refine tr_seq ?_
    refine tr_seq ?_
    refine tr_rg hP tabOk hsp fun A hA M hM => ?_
    cbv
    obtain ⟨ob1, H⟩ := ck_out H
    refine ⟨by subst hA; exact ob1, hM _ ?_⟩
    refine tr_keep [1, 2, 3, 6, 26] (σ' := mkSl 51 0 [(1, .val (.int .u8) .n gone_2), (2, .val (.int .u8) .n come_3), (3, .val (.box (.st [.int .i64, .int .u8])) (.b .n) v_1), (6, .val (.box (.st [.int .i64, .int .u8])) (.b .n) ((0 : Int), (0 : Int), ())), (26, .val (.bool) .n (((arR .shr .u8 (arR .or .u8 gone_2 come_3) (6 : Int)) != (0 : Int)) || ((arR .and .u8 gone_2 come_3) != (0 : Int))))]) (by subst hA; rfl) ?_
    clear ob1 hM hA M A
    refine tr_cond rfl (fun hc => ?_) (fun hc => ?_)
    · replace H := if_t H hc
      refine tr_keep [1, 2, 3, 6] (σ' := mkSl 51 0 [(1, .val (.int .u8) .n gone_2), (2, .val (.int .u8) .n come_3), (3, .val (.box (.st [.int .i64, .int .u8])) (.b .n) v_1), (6, .val (.box (.st [.int .i64, .int .u8])) (.b .n) ((0 : Int), (0 : Int), ()))]) rfl ?_
      refine tr_seq ?_
      refine tr_rg hP tabOk hsp fun A hA M hM => ?_
      cbv
      refine hM _ ?_
      refine tr_ret ?_
      have hr := Option.some.inj H
      subst hr
      subst hA
      exact rfl
    · replace H := if_f H hc
      refine tr_keep [1, 2, 3, 6] (σ' := mkSl 51 0 [(1, .val (.int .u8) .n gone_2), (2, .val (.int .u8) .n come_3), (3, .val (.box (.st [.int .i64, .int .u8])) (.b .n) v_1), (6, .val (.box (.st [.int .i64, .int .u8])) (.b .n) ((0 : Int), (0 : Int), ()))]) rfl ?_
      refine tr_skip ?_
      refine tr_seq ?_
      refine tr_seq ?_
      refine tr_rg hP tabOk hsp fun A hA M hM => ?_
      cbv
      refine hM _ ?_
      refine tr_keep [1, 2, 3, 6, 30] (σ' := mkSl 51 0 [(1, .val (.int .u8) .n gone_2), (2, .val (.int .u8) .n come_3), (3, .val (.box (.st [.int .i64, .int .u8])) (.b .n) v_1), (6, .val (.box (.st [.int .i64, .int .u8])) (.b .n) ((0 : Int), (0 : Int), ())), (30, .val (.bool) .n (v_1.1 == (16777215 : Int)))]) (by subst hA; rfl) ?_
      clear hM hA M A
      refine tr_cond rfl (fun hc => ?_) (fun hc => ?_)
      · replace H := if_t H hc
        refine tr_keep [1, 2, 3, 6] (σ' := mkSl 51 0 [(1, .val (.int .u8) .n gone_2), (2, .val (.int .u8) .n come_3), (3, .val (.box (.st [.int .i64, .int .u8])) (.b .n) v_1), (6, .val (.box (.st [.int .i64, .int .u8])) (.b .n) ((0 : Int), (0 : Int), ()))]) rfl ?_
        refine tr_seq ?_
        refine tr_rg hP tabOk hsp fun A hA M hM => ?_
        cbv
        refine hM _ ?_
        refine tr_ret ?_
        have hr := Option.some.inj H
        subst hr
        subst hA
        exact rfl
      · replace H := if_f H hc
        refine tr_keep [1, 2, 3, 6] (σ' := mkSl 51 0 [(1, .val (.int .u8) .n gone_2), (2, .val (.int .u8) .n come_3), (3, .val (.box (.st [.int .i64, .int .u8])) (.b .n) v_1), (6, .val (.box (.st [.int .i64, .int .u8])) (.b .n) ((0 : Int), (0 : Int), ()))]) rfl ?_
        refine tr_skip ?_
        refine tr_seq ?_
        refine tr_rg hP tabOk hsp fun A hA M hM => ?_
        cbv
        refine hM _ ?_
        refine tr_seq ?_
        refine tr_seq ?_
        refine tr_keepL [2, 3, 6, 9] (fun stay_5 : Int => mkSl 51 0 [(2, .val (.int .u8) .n come_3), (3, .val (.box (.st [.int .i64, .int .u8])) (.b .n) v_1), (6, .val (.box (.st [.int .i64, .int .u8])) (.b .n) ((0 : Int), (0 : Int), ())), (9, .val (.int .u8) .n stay_5)]) H (by subst hA; rfl) (fun stay_5 H => ?_)
        clear hM hA M A
        refine tr_rg hP tabOk hsp fun A hA M hM => ?_
        cbv
        obtain ⟨r_6, hr1, H⟩ := bind_out H
        obtain ⟨pq1, eq1⟩ := hc29 hr1
        obtain ⟨r_7, hr2, H⟩ := bind_out H
        obtain ⟨pq2, eq2⟩ := hc29 hr2
        refine ⟨by subst hA; subst eq1; exact pq1, by subst hA; subst eq1; subst eq2; exact pq2, hM _ ?_⟩
        refine tr_keep [2, 3, 6, 9, 42] (σ' := mkSl 51 0 [(2, .val (.int .u8) .n come_3), (3, .val (.box (.st [.int .i64, .int .u8])) (.b .n) v_1), (6, .val (.box (.st [.int .i64, .int .u8])) (.b .n) ((0 : Int), (0 : Int), ())), (9, .val (.int .u8) .n stay_5), (42, .val (.bool) .n (decide ((arR .mul .i64 (2 : Int) r_6) ≤ r_7)))]) (by subst hA; subst eq1; subst eq2; rfl) ?_
        clear pq2 eq2 hr2 pq1 eq1 hr1 hM hA M A
        refine tr_cond rfl (fun hc => ?_) (fun hc => ?_)
        · replace H := if_t H hc
          refine tr_keep [2, 3, 6, 9] (σ' := mkSl 51 0 [(2, .val (.int .u8) .n come_3), (3, .val (.box (.st [.int .i64, .int .u8])) (.b .n) v_1), (6, .val (.box (.st [.int .i64, .int .u8])) (.b .n) ((0 : Int), (0 : Int), ())), (9, .val (.int .u8) .n stay_5)]) rfl ?_
          refine tr_seq ?_
          refine tr_rg hP tabOk hsp fun A hA M hM => ?_
          cbv
          refine hM _ ?_
          refine tr_ret ?_
          have hr := Option.some.inj H
          subst hr
          subst hA
          exact rfl
        · replace H := if_f H hc
          refine tr_keep [2, 3, 6, 9] (σ' := mkSl 51 0 [(2, .val (.int .u8) .n come_3), (3, .val (.box (.st [.int .i64, .int .u8])) (.b .n) v_1), (6, .val (.box (.st [.int .i64, .int .u8])) (.b .n) ((0 : Int), (0 : Int), ())), (9, .val (.int .u8) .n stay_5)]) rfl ?_
          refine tr_skip ?_
          refine tr_seq ?_
          refine tr_rg hP tabOk hsp fun A hA M hM => ?_
          cbv
          refine hM _ ?_
          refine tr_ret ?_
          have hr := Option.some.inj H
          subst hr
          subst hA
          exact rfl
theorem view_Next_sp : ∃ (pg : PT.denL [.st [.int .i64, .int .u8], .int .u8, .int .u8] → Prop) (fg : PT.denL [.st [.int .i64, .int .u8], .int .u8, .int .u8] → PT.denL [.st [.int .i64, .int .u8], .int .i64]), SpecRuns Try.prog 23 ⟨[.st [.int .i64, .int .u8], .int .u8, .int .u8], [.v, .v, .v], [.st [.int .i64, .int .u8], .int .i64], [.n, .n], pg, fg⟩ ∧ (∀ {a1 : (Int × Int × Unit)} {a2 : Int} {a3 : Int} {y : (Int × Int × Unit) × Int}, view_Next a1 a2 a3 = some y → pg (a1, a2, a3, ()) ∧ y = ((fg (a1, a2, a3, ())).1, (fg (a1, a2, a3, ())).2.1)) ∧ (∀ {a1 : (Int × Int × Unit)} {a2 : Int} {a3 : Int}, (view_Next a1 a2 a3).isSome = true → pg (a1, a2, a3, ())) ∧ ∀ {a1 : (Int × Int × Unit)} {a2 : Int} {a3 : Int}, (view_Next a1 a2 a3).getD (((0 : Int), (0 : Int), ()), (0 : Int)) = ((fg (a1, a2, a3, ())).1, (fg (a1, a2, a3, ())).2.1) := by
  obtain ⟨pg, fg, h, hc, hi, hd⟩ := spec_hide view_Next_runs
  refine ⟨pg, fg, h, ?_, ?_, ?_⟩
  · intro a1 a2 a3 y e
    obtain ⟨h1, h2⟩ := hc (a1, a2, a3, ()) (y.1, y.2, ()) (congrArg (Option.map fun r => (r.1, r.2, ())) e)
    exact ⟨h1, by first | (rw [h2]; done) | (rw [h2]; rfl)⟩
  · intro a1 a2 a3
    intro e
    exact hi (a1, a2, a3, ()) (map_isSome e)
  · intro a1 a2 a3
    rw [hd (a1, a2, a3, ())]
    cases view_Next a1 a2 a3 <;> rfl
end Go.Proofs.Ythjbflbcdohooaa.Fl
