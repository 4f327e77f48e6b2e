/- Functions of the program as functions that may fail, and that the code computes them (printed). Each theorem bears its conditions itself. -/
import Derived.Test.YtaachifkgcdeoaaLtDefs
import Derived.Test.YtaachifkgcdeoaaLtTab
import Derived.Test.YtaachifkgcdeoaaLtQslicesQIndexQLuint16Quint16
open Go Go.Proofs.Ytaachifkgcdeoaa.Sy Go.Proofs
set_option maxHeartbeats 4000000
set_option maxRecDepth 100000
set_option cbv.maxSteps 10000000
set_option linter.unusedVariables false
set_option linter.unusedSimpArgs false
namespace Go.Proofs.Ytaachifkgcdeoaa.Lt
theorem LatLaws_1_runs : SpecRuns Try.prog 11 (oSpec [.int .u16, .list (.int .u16)] [.v, .p] [.int .i64] [.n] fun x => (LatLaws_1 x.1 x.2.1).map fun r => (r, ())) := by
  obtain ⟨pg12, fg12, hs12, hc12, hi12, hd12⟩ := slices_Index_Luint16_uint16_sp
  have hsp : SpecsOk Try.prog [(12, ⟨[.list (.int .u16), .int .u16], [.v, .v], [.int .i64], [.n], pg12, fg12⟩)] := (specsOk_cons Try.func12 (by kernel_rfl) (by kernel_rfl) hs12 specsOk_nil)
  refine runs_of_o tabOk Try.func11 rfl (Nat.le_of_ble_eq_true rfl) rfl ?_
  rintro E ⟨(s_1 : Int), (t1_2 : List Int), ⟨⟩⟩ y hP H hw
  obtain ⟨z, H1, rfl⟩ := map_out H
  replace H : LatLaws_1 s_1 t1_2 = some z := H1
  clear hw H1
  unfold LatLaws_1 at H
  refine tr_keep [0, 1] (σ' := mkSl 7 0 [(0, .val (.int .u16) .n s_1), (1, .pv (.list (.int .u16)) t1_2)]) rfl ?_
  refine tr_seq ?_
  refine tr_rg hP tabOk hsp fun A hA M hM => ?_
  cbv
  refine hM _ ?_
  refine tr_seq ?_
  refine tr_keep [0, 1] (σ' := mkSl 7 0 [(0, .val (.int .u16) .n s_1), (1, .pv (.list (.int .u16)) t1_2)]) (by subst hA; rfl) ?_
  clear hM hA M A
  refine tr_rg hP tabOk hsp fun A hA M hM => ?_
  cbv
  obtain ⟨r_3, hr1, H⟩ := bind_out H
  obtain ⟨pq1, eq1⟩ := hc12 hr1
  refine ⟨by subst hA; subst eq1; exact pq1, hM _ ?_⟩
  refine tr_ret ?_
  have hr := Option.some.inj H
  subst hr
  subst hA
  subst eq1
  exact rfl
theorem LatLaws_1_sp : ∃ (pg : PT.denL [.int .u16, .list (.int .u16)] → Prop) (fg : PT.denL [.int .u16, .list (.int .u16)] → PT.denL [.int .i64]), SpecRuns Try.prog 11 ⟨[.int .u16, .list (.int .u16)], [.v, .p], [.int .i64], [.n], pg, fg⟩ ∧ (∀ {a1 : Int} {a2 : List Int} {y : Int}, LatLaws_1 a1 a2 = some y → pg (a1, a2, ()) ∧ y = (fg (a1, a2, ())).1) ∧ (∀ {a1 : Int} {a2 : List Int}, (LatLaws_1 a1 a2).isSome = true → pg (a1, a2, ())) ∧ ∀ {a1 : Int} {a2 : List Int}, (LatLaws_1 a1 a2).getD (0 : Int) = (fg (a1, a2, ())).1 := by
  obtain ⟨pg, fg, h, hc, hi, hd⟩ := spec_hide LatLaws_1_runs
  refine ⟨pg, fg, h, ?_, ?_, ?_⟩
  · intro a1 a2 y e
    obtain ⟨h1, h2⟩ := hc (a1, a2, ()) (y, ()) (congrArg (Option.map fun r => (r, ())) e)
    exact ⟨h1, by first | (rw [h2]; done) | (rw [h2]; rfl)⟩
  · intro a1 a2
    intro e
    exact hi (a1, a2, ()) (map_isSome e)
  · intro a1 a2
    rw [hd (a1, a2, ())]
    cases LatLaws_1 a1 a2 <;> rfl
end Go.Proofs.Ytaachifkgcdeoaa.Lt
