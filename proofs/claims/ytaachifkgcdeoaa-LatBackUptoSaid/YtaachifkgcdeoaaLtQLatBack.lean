/- Functions of the program as functions that may fail, and that the code computes them (printed). Each theorem bears its conditions itself. -/
import Derived.Test.YtaachifkgcdeoaaLtDefs
import Derived.Test.YtaachifkgcdeoaaLtTab
import Derived.Test.YtaachifkgcdeoaaLtQlatQDowns
import Derived.Test.YtaachifkgcdeoaaLtQslicesQEqualQLuint16Quint16
import Derived.Test.YtaachifkgcdeoaaLtQlatQBack
import Derived.Test.YtaachifkgcdeoaaLtQposetQClose
open Go Go.Proofs.Ytaachifkgcdeoaa.Sy Go.Proofs
set_option maxHeartbeats 4000000
set_option maxRecDepth 100000
set_option cbv.maxSteps 10000000
set_option linter.unusedVariables false
set_option linter.unusedSimpArgs false
namespace Go.Proofs.Ytaachifkgcdeoaa.Lt
theorem LatBack_runs : SpecRuns Try.prog 7 (oSpec [.st [.int .i64, .list (.st [.int .i64, .int .i64])]] [.v] [.bool] [.n] fun x => (LatBack x.1).map fun r => (r, ())) := by
  obtain ⟨pg17, fg17, hs17, hc17, hi17, hd17⟩ := lat_Downs_sp
  obtain ⟨pg14, fg14, hs14, hc14, hi14, hd14⟩ := slices_Equal_Luint16_uint16_sp
  obtain ⟨pg19, fg19, hs19, hc19, hi19, hd19⟩ := lat_Back_sp
  obtain ⟨pg20, fg20, hs20, hc20, hi20, hd20⟩ := poset_Close_sp
  have hsp : SpecsOk Try.prog [(17, ⟨[.st [.int .i64, .list (.st [.int .i64, .int .i64])]], [.v], [.list (.int .u16), .int .i64], [.l .n, .n], pg17, fg17⟩), (14, ⟨[.list (.int .u16), .list (.int .u16)], [.v, .v], [.bool], [.n], pg14, fg14⟩), (19, ⟨[.list (.int .u16)], [.v], [.st [.int .i64, .list (.st [.int .i64, .int .i64])], .int .i64], [.s [.n, (.l .n)], .n], pg19, fg19⟩), (20, ⟨[.st [.int .i64, .list (.st [.int .i64, .int .i64])]], [.v], [.list (.st [.int .i64, .int .i64]), .int .i64], [.l .n, .n], pg20, fg20⟩)] := (specsOk_cons Try.func17 (by kernel_rfl) (by kernel_rfl) hs17 (specsOk_cons Try.func14 (by kernel_rfl) (by kernel_rfl) hs14 (specsOk_cons Try.func19 (by kernel_rfl) (by kernel_rfl) hs19 (specsOk_cons Try.func20 (by kernel_rfl) (by kernel_rfl) hs20 specsOk_nil))))
  refine runs_of_o tabOk Try.func7 rfl (Nat.le_of_ble_eq_true rfl) rfl ?_
  rintro E ⟨(t0_1 : (Int × List ((Int × Int × Unit)) × Unit)), ⟨⟩⟩ y hP H hw
  obtain ⟨z, H1, rfl⟩ := map_out H
  replace H : LatBack t0_1 = some z := H1
  clear hw H1
  unfold LatBack at H
  refine tr_keep [0] (σ' := mkSl 86 0 [(0, .val (.st [.int .i64, .list (.st [.int .i64, .int .i64])]) .n t0_1)]) rfl ?_
  refine tr_seq ?_
  refine tr_rg hP tabOk hsp fun A hA M hM => ?_
  cbv
  refine hM _ ?_
  refine tr_seq ?_
  refine tr_seq ?_
  refine tr_keep [1] (σ' := mkSl 86 0 [(1, .val (.box (.st [.int .i64, .list (.st [.int .i64, .int .i64])])) (.b .n) t0_1)]) (by subst hA; rfl) ?_
  clear hM hA M A
  refine tr_rg hP tabOk hsp fun A hA M hM => ?_
  cbv
  obtain ⟨r_2, hr1, H⟩ := bind_out H
  obtain ⟨pq1, eq1⟩ := hc17 hr1
  refine ⟨by subst hA; subst eq1; exact pq1, hM _ ?_⟩
  refine tr_seq ?_
  refine tr_keep [1, 3, 4] (σ' := mkSl 86 0 [(1, .val (.box (.st [.int .i64, .list (.st [.int .i64, .int .i64])])) (.b .n) t0_1), (3, .val (.list (.int .u16)) (.l .n) r_2.1), (4, .val (.int .i64) .n r_2.2)]) (by subst hA; subst eq1; rfl) ?_
  clear pq1 eq1 hr1 hM hA M A
  refine tr_rg hP tabOk hsp fun A hA M hM => ?_
  cbv
  obtain ⟨r_3, er1, H⟩ := letO_out H
  obtain ⟨ob1, H⟩ := ck_out H
  have eq1 := er1.trans hd14
  refine ⟨by subst hA; subst eq1; exact fun h0 => hi14 (ob1 h0), hM _ ?_⟩
  refine tr_keep [1, 27] (σ' := mkSl 86 0 [(1, .val (.box (.st [.int .i64, .list (.st [.int .i64, .int .i64])])) (.b .n) t0_1), (27, .val (.bool) .n ((r_2.2 != (0 : Int)) || (!r_3)))]) (by subst hA; subst eq1; rfl) ?_
  clear ob1 eq1 er1 hM hA M A
  refine tr_cond rfl (fun hc => ?_) (fun hc => ?_)
  · replace H := if_t H hc
    refine tr_keep [1] (σ' := mkSl 86 0 [(1, .val (.box (.st [.int .i64, .list (.st [.int .i64, .int .i64])])) (.b .n) t0_1)]) rfl ?_
    refine tr_seq ?_
    refine tr_rg hP tabOk hsp fun A hA M hM => ?_
    cbv
    refine hM _ ?_
    refine tr_ret ?_
    have hr := Option.some.inj H
    subst hr
    subst hA
    exact rfl
  · replace H := if_f H hc
    refine tr_keep [1] (σ' := mkSl 86 0 [(1, .val (.box (.st [.int .i64, .list (.st [.int .i64, .int .i64])])) (.b .n) t0_1)]) rfl ?_
    refine tr_skip ?_
    refine tr_seq ?_
    refine tr_rg hP tabOk hsp fun A hA M hM => ?_
    cbv
    obtain ⟨r_4, hr1, H⟩ := bind_out H
    obtain ⟨pq1, eq1⟩ := hc17 hr1
    refine ⟨by subst hA; subst eq1; exact pq1, hM _ ?_⟩
    refine tr_seq ?_
    refine tr_seq ?_
    refine tr_keep [1, 5, 6] (σ' := mkSl 86 0 [(1, .val (.box (.st [.int .i64, .list (.st [.int .i64, .int .i64])])) (.b .n) t0_1), (5, .val (.list (.int .u16)) (.l .n) r_4.1), (6, .val (.int .i64) .n r_4.2)]) (by subst hA; subst eq1; rfl) ?_
    clear pq1 eq1 hr1 hM hA M A
    refine tr_rg hP tabOk hsp fun A hA M hM => ?_
    cbv
    refine hM _ ?_
    refine tr_keep [1, 5, 34] (σ' := mkSl 86 0 [(1, .val (.box (.st [.int .i64, .list (.st [.int .i64, .int .i64])])) (.b .n) t0_1), (5, .val (.list (.int .u16)) (.l .n) r_4.1), (34, .val (.bool) .n (r_4.2 != (0 : Int)))]) (by subst hA; rfl) ?_
    clear hM hA M A
    refine tr_cond rfl (fun hc => ?_) (fun hc => ?_)
    · replace H := if_t H hc
      refine tr_keep [1, 5] (σ' := mkSl 86 0 [(1, .val (.box (.st [.int .i64, .list (.st [.int .i64, .int .i64])])) (.b .n) t0_1), (5, .val (.list (.int .u16)) (.l .n) r_4.1)]) rfl ?_
      refine tr_seq ?_
      refine tr_rg hP tabOk hsp fun A hA M hM => ?_
      cbv
      refine hM _ ?_
      refine tr_ret ?_
      have hr := Option.some.inj H
      subst hr
      subst hA
      exact rfl
    · replace H := if_f H hc
      refine tr_keep [1, 5] (σ' := mkSl 86 0 [(1, .val (.box (.st [.int .i64, .list (.st [.int .i64, .int .i64])])) (.b .n) t0_1), (5, .val (.list (.int .u16)) (.l .n) r_4.1)]) rfl ?_
      refine tr_skip ?_
      refine tr_seq ?_
      refine tr_rg hP tabOk hsp fun A hA M hM => ?_
      cbv
      obtain ⟨r_5, hr1, H⟩ := bind_out H
      obtain ⟨pq1, eq1⟩ := hc19 hr1
      refine ⟨by subst hA; subst eq1; exact pq1, hM _ ?_⟩
      refine tr_seq ?_
      refine tr_seq ?_
      refine tr_keep [1, 5, 7, 8] (σ' := mkSl 86 0 [(1, .val (.box (.st [.int .i64, .list (.st [.int .i64, .int .i64])])) (.b .n) t0_1), (5, .val (.list (.int .u16)) (.l .n) r_4.1), (7, .val (.box (.st [.int .i64, .list (.st [.int .i64, .int .i64])])) (.b (.s [.n, (.l .n)])) r_5.1), (8, .val (.int .i64) .n r_5.2)]) (by subst hA; subst eq1; rfl) ?_
      clear pq1 eq1 hr1 hM hA M A
      refine tr_rg hP tabOk hsp fun A hA M hM => ?_
      cbv
      refine hM _ ?_
      refine tr_keep [1, 5, 7, 8, 44] (σ' := mkSl 86 0 [(1, .val (.box (.st [.int .i64, .list (.st [.int .i64, .int .i64])])) (.b .n) t0_1), (5, .val (.list (.int .u16)) (.l .n) r_4.1), (7, .val (.box (.st [.int .i64, .list (.st [.int .i64, .int .i64])])) (.b (.s [.n, (.l .n)])) r_5.1), (8, .val (.int .i64) .n r_5.2), (44, .val (.bool) .n (r_5.2 != (0 : Int)))]) (by subst hA; rfl) ?_
      clear hM hA M A
      refine tr_cond rfl (fun hc => ?_) (fun hc => ?_)
      · replace H := if_t H hc
        refine tr_keep [1, 5, 7, 8] (σ' := mkSl 86 0 [(1, .val (.box (.st [.int .i64, .list (.st [.int .i64, .int .i64])])) (.b .n) t0_1), (5, .val (.list (.int .u16)) (.l .n) r_4.1), (7, .val (.box (.st [.int .i64, .list (.st [.int .i64, .int .i64])])) (.b (.s [.n, (.l .n)])) r_5.1), (8, .val (.int .i64) .n r_5.2)]) rfl ?_
        refine tr_seq ?_
        refine tr_rg hP tabOk hsp fun A hA M hM => ?_
        cbv
        refine hM _ ?_
        refine tr_ret ?_
        have hr := Option.some.inj H
        subst hr
        subst hA
        exact rfl
      · replace H := if_f H hc
        refine tr_keep [1, 5, 7, 8] (σ' := mkSl 86 0 [(1, .val (.box (.st [.int .i64, .list (.st [.int .i64, .int .i64])])) (.b .n) t0_1), (5, .val (.list (.int .u16)) (.l .n) r_4.1), (7, .val (.box (.st [.int .i64, .list (.st [.int .i64, .int .i64])])) (.b (.s [.n, (.l .n)])) r_5.1), (8, .val (.int .i64) .n r_5.2)]) rfl ?_
        refine tr_skip ?_
        refine tr_seq ?_
        refine tr_rg hP tabOk hsp fun A hA M hM => ?_
        cbv
        obtain ⟨r_6, hr1, H⟩ := bind_out H
        obtain ⟨pq1, eq1⟩ := hc17 hr1
        refine ⟨by subst hA; subst eq1; exact pq1, hM _ ?_⟩
        refine tr_seq ?_
        refine tr_keep [1, 5, 7, 9, 10] (σ' := mkSl 86 0 [(1, .val (.box (.st [.int .i64, .list (.st [.int .i64, .int .i64])])) (.b .n) t0_1), (5, .val (.list (.int .u16)) (.l .n) r_4.1), (7, .val (.box (.st [.int .i64, .list (.st [.int .i64, .int .i64])])) (.b (.s [.n, (.l .n)])) r_5.1), (9, .val (.list (.int .u16)) (.l .n) r_6.1), (10, .val (.int .i64) .n r_6.2)]) (by subst hA; subst eq1; rfl) ?_
        clear pq1 eq1 hr1 hM hA M A
        refine tr_rg hP tabOk hsp fun A hA M hM => ?_
        cbv
        obtain ⟨r_7, hr1, H⟩ := bind_out H
        obtain ⟨pq1, eq1⟩ := hc20 hr1
        refine ⟨by subst hA; subst eq1; exact pq1, hM _ ?_⟩
        refine tr_seq ?_
        refine tr_keep [1, 5, 7, 9, 10, 11] (σ' := mkSl 86 0 [(1, .val (.box (.st [.int .i64, .list (.st [.int .i64, .int .i64])])) (.b .n) t0_1), (5, .val (.list (.int .u16)) (.l .n) r_4.1), (7, .val (.box (.st [.int .i64, .list (.st [.int .i64, .int .i64])])) (.b (.s [.n, (.l .n)])) r_5.1), (9, .val (.list (.int .u16)) (.l .n) r_6.1), (10, .val (.int .i64) .n r_6.2), (11, .val (.list (.st [.int .i64, .int .i64])) (.l .n) r_7.1)]) (by subst hA; subst eq1; rfl) ?_
        clear pq1 eq1 hr1 hM hA M A
        refine tr_rg hP tabOk hsp fun A hA M hM => ?_
        cbv
        refine hM _ ?_
        refine tr_ret ?_
        have hr := Option.some.inj H
        subst hr
        subst hA
        exact rfl
theorem LatBack_sp : ∃ (pg : PT.denL [.st [.int .i64, .list (.st [.int .i64, .int .i64])]] → Prop) (fg : PT.denL [.st [.int .i64, .list (.st [.int .i64, .int .i64])]] → PT.denL [.bool]), SpecRuns Try.prog 7 ⟨[.st [.int .i64, .list (.st [.int .i64, .int .i64])]], [.v], [.bool], [.n], pg, fg⟩ ∧ (∀ {a1 : (Int × List ((Int × Int × Unit)) × Unit)} {y : Bool}, LatBack a1 = some y → pg (a1, ()) ∧ y = (fg (a1, ())).1) ∧ (∀ {a1 : (Int × List ((Int × Int × Unit)) × Unit)}, (LatBack a1).isSome = true → pg (a1, ())) ∧ ∀ {a1 : (Int × List ((Int × Int × Unit)) × Unit)}, (LatBack a1).getD false = (fg (a1, ())).1 := by
  obtain ⟨pg, fg, h, hc, hi, hd⟩ := spec_hide LatBack_runs
  refine ⟨pg, fg, h, ?_, ?_, ?_⟩
  · intro a1 y e
    obtain ⟨h1, h2⟩ := hc (a1, ()) (y, ()) (congrArg (Option.map fun r => (r, ())) e)
    exact ⟨h1, by first | (rw [h2]; done) | (rw [h2]; rfl)⟩
  · intro a1
    intro e
    exact hi (a1, ()) (map_isSome e)
  · intro a1
    rw [hd (a1, ())]
    cases LatBack a1 <;> rfl
end Go.Proofs.Ytaachifkgcdeoaa.Lt
