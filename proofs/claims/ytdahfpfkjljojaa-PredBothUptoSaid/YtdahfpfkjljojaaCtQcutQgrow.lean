/- Functions of the program as functions that may fail, and that the code computes them (printed). Each theorem bears its conditions itself. -/
import Derived.Test.YtdahfpfkjljojaaCtDefs
import Derived.Test.YtdahfpfkjljojaaCtTab
import Derived.Test.YtdahfpfkjljojaaCtQcutQstory
import Derived.Test.YtdahfpfkjljojaaCtQvectQMax
open Go Go.Proofs.Ytdahfpfkjljojaa.Sy Go.Proofs
set_option maxHeartbeats 4000000
set_option maxRecDepth 100000
set_option cbv.maxSteps 10000000
set_option linter.unusedVariables false
set_option linter.unusedSimpArgs false
namespace Go.Proofs.Ytdahfpfkjljojaa.Ct
theorem cut_grow_runs : SpecRuns Try.prog 35 (oSpec [.list (.st [.int .i64, .int .i64, .int .i64]), .arr 6 (.int .i64)] [.v, .v] [.arr 6 (.int .i64)] [.n] fun x => (cut_grow x.1 x.2.1).map fun r => (r, ())) := by
  obtain ⟨pg36, fg36, hs36, hc36, hi36, hd36⟩ := cut_story_sp
  obtain ⟨pg17, fg17, hs17, hc17, hi17, hd17⟩ := vect_Max_sp
  have hsp : SpecsOk Try.prog [(36, ⟨[.list (.st [.int .i64, .int .i64, .int .i64])], [.v], [.arr 6 (.list (.arr 6 (.int .i64)))], [.a (.l .n)], pg36, fg36⟩), (17, ⟨[.arr 6 (.int .i64), .arr 6 (.int .i64)], [.v, .v], [.arr 6 (.int .i64)], [.n], pg17, fg17⟩)] := (specsOk_cons Try.func36 (by kernel_rfl) (by kernel_rfl) hs36 (specsOk_cons Try.func17 (by kernel_rfl) (by kernel_rfl) hs17 specsOk_nil))
  refine runs_of_o tabOk Try.func35 rfl (Nat.le_of_ble_eq_true rfl) rfl ?_
  rintro E ⟨(h_1 : List ((Int × Int × Int × Unit))), (c_2 : List Int), ⟨⟩⟩ y hP H hw
  obtain ⟨z, H1, rfl⟩ := map_out H
  replace H : cut_grow h_1 c_2 = some z := H1
  clear hw H1
  unfold cut_grow at H
  refine tr_keep [0, 1] (σ' := mkSl 30 0 [(0, .val (.list (.st [.int .i64, .int .i64, .int .i64])) .n h_1), (1, .val (.arr 6 (.int .i64)) .n c_2)]) rfl ?_
  refine tr_seq ?_
  refine tr_rg hP tabOk hsp fun A hA M hM => ?_
  cbv
  refine hM _ ?_
  refine tr_seq ?_
  refine tr_keepL [0, 3, 4] (fun t4_3 : List Int => mkSl 30 0 [(0, .val (.list (.st [.int .i64, .int .i64, .int .i64])) .n h_1), (3, .val (.box (.arr 6 (.int .i64))) (.b .n) c_2), (4, .val (.box (.arr 6 (.int .i64))) (.b .n) t4_3)]) H (by subst hA; rfl) (fun t4_3 H => ?_)
  clear hM hA M A
  refine tr_rg hP tabOk hsp fun A hA M hM => ?_
  cbv
  obtain ⟨r_4, hr1, H⟩ := bind_out H
  obtain ⟨pq1, eq1⟩ := hc36 hr1
  refine ⟨by subst hA; subst eq1; exact pq1, hM _ ?_⟩
  refine tr_seq ?_
  refine tr_keep [3, 4, 5] (σ' := mkSl 30 0 [(3, .val (.box (.arr 6 (.int .i64))) (.b .n) c_2), (4, .val (.box (.arr 6 (.int .i64))) (.b .n) t4_3), (5, .val (.box (.arr 6 (.list (.arr 6 (.int .i64))))) (.b (.a (.l .n))) r_4)]) (by subst hA; subst eq1; rfl) ?_
  clear pq1 eq1 hr1 hM hA M A
  refine tr_rg hP tabOk hsp fun A hA M hM => ?_
  cbv
  refine hM _ ?_
  refine tr_seq ?_
  refine tr_seq ?_
  refine tr_keep [3, 4, 5, 6] (σ' := mkSl 30 0 [(3, .val (.box (.arr 6 (.int .i64))) (.b .n) c_2), (4, .val (.box (.arr 6 (.int .i64))) (.b .n) t4_3), (5, .val (.box (.arr 6 (.list (.arr 6 (.int .i64))))) (.b (.a (.l .n))) r_4), (6, .val (.box (.arr 6 (.int .i64))) (.b .n) c_2)]) (by subst hA; rfl) ?_
  clear hM hA M A
  refine tr_rg hP tabOk hsp fun A hA M hM => ?_
  cbv
  refine hM _ ?_
  refine tr_block ?_
  refine tr_keep [4, 5, 6, 12, 13] (σ' := mkSl 30 0 [(4, .val (.box (.arr 6 (.int .i64))) (.b .n) t4_3), (5, .val (.box (.arr 6 (.list (.arr 6 (.int .i64))))) (.b (.a (.l .n))) r_4), (6, .val (.box (.arr 6 (.int .i64))) (.b .n) c_2), (12, .val (.arr 6 (.int .i64)) .n c_2), (13, .val (.int .i64) .n (0 : Int))]) (by subst hA; rfl) ?_
  clear hM hA M A
  obtain ⟨q_8, hq, H⟩ := bind_out H
  refine tr_loopB 0 (fun x : List Int × Int => cut_grow_L1 c_2 r_4 x.1 x.2) (fun x : List Int × Int => mkSl 30 0 [(4, .val (.box (.arr 6 (.int .i64))) (.b .n) t4_3), (5, .val (.box (.arr 6 (.list (.arr 6 (.int .i64))))) (.b (.a (.l .n))) r_4), (6, .val (.box (.arr 6 (.int .i64))) (.b .n) x.1), (12, .val (.arr 6 (.int .i64)) .n c_2), (13, .val (.int .i64) .n x.2)]) [4, 5, 6, 12, 13] (fun q_8 : List Int => mkSl 30 0 [(4, .val (.box (.arr 6 (.int .i64))) (.b .n) t4_3), (6, .val (.box (.arr 6 (.int .i64))) (.b .n) q_8)]) [4, 6] hq rfl (fun σ' h => ?_) (fun x r1 H => ?_)
  · refine tr_keep [4, 6] h ?_
    refine tr_seq ?_
    refine tr_rg hP tabOk hsp fun A hA M hM => ?_
    cbv
    refine hM _ ?_
    refine tr_ret ?_
    have hr := Option.some.inj H
    subst hr
    subst hA
    exact rfl
  · obtain ⟨out_5, t13_6⟩ := x
    replace H : cut_grow_L1 c_2 r_4 out_5 t13_6 = some r1 := H
    unfold cut_grow_L1 at H
    refine tr_seq ?_
    refine tr_rg hP tabOk hsp fun A hA M hM => ?_
    cbv
    refine hM _ ?_
    refine tr_seq ?_
    refine tr_keep [4, 5, 6, 12, 13, 14] (σ' := mkSl 30 0 [(4, .val (.box (.arr 6 (.int .i64))) (.b .n) t4_3), (5, .val (.box (.arr 6 (.list (.arr 6 (.int .i64))))) (.b (.a (.l .n))) r_4), (6, .val (.box (.arr 6 (.int .i64))) (.b .n) out_5), (12, .val (.arr 6 (.int .i64)) .n c_2), (13, .val (.int .i64) .n t13_6), (14, .val (.bool) .n (decide (t13_6 < (6 : Int))))]) (by subst hA; rfl) ?_
    clear hM hA M A
    refine tr_cond rfl (fun hc => ?_) (fun hc => ?_)
    · replace H := if_t H hc
      refine tr_keep [4, 5, 6, 12, 13] (σ' := mkSl 30 0 [(4, .val (.box (.arr 6 (.int .i64))) (.b .n) t4_3), (5, .val (.box (.arr 6 (.list (.arr 6 (.int .i64))))) (.b (.a (.l .n))) r_4), (6, .val (.box (.arr 6 (.int .i64))) (.b .n) out_5), (12, .val (.arr 6 (.int .i64)) .n c_2), (13, .val (.int .i64) .n t13_6)]) rfl ?_
      refine tr_skip ?_
      refine tr_seq ?_
      refine tr_block ?_
      refine tr_seq ?_
      refine tr_rg hP tabOk hsp fun A hA M hM => ?_
      cbv
      obtain ⟨ob1, H⟩ := ck_out H
      refine ⟨by subst hA; exact ob1, hM _ ?_⟩
      refine tr_seq ?_
      refine tr_keepL [4, 5, 6, 7, 8, 12, 13] (fun n_9 : Int => mkSl 30 0 [(4, .val (.box (.arr 6 (.int .i64))) (.b .n) t4_3), (5, .val (.box (.arr 6 (.list (.arr 6 (.int .i64))))) (.b (.a (.l .n))) r_4), (6, .val (.box (.arr 6 (.int .i64))) (.b .n) out_5), (7, .val (.int .i64) .n t13_6), (8, .val (.int .i64) .n n_9), (12, .val (.arr 6 (.int .i64)) .n c_2), (13, .val (.int .i64) .n t13_6)]) H (by subst hA; rfl) (fun n_9 H => ?_)
      clear ob1 hM hA M A
      refine tr_rg hP tabOk hsp fun A hA M hM => ?_
      cbv
      refine hM _ ?_
      refine tr_keep [4, 5, 6, 7, 8, 12, 13, 18] (σ' := mkSl 30 0 [(4, .val (.box (.arr 6 (.int .i64))) (.b .n) t4_3), (5, .val (.box (.arr 6 (.list (.arr 6 (.int .i64))))) (.b (.a (.l .n))) r_4), (6, .val (.box (.arr 6 (.int .i64))) (.b .n) out_5), (7, .val (.int .i64) .n t13_6), (8, .val (.int .i64) .n n_9), (12, .val (.arr 6 (.int .i64)) .n c_2), (13, .val (.int .i64) .n t13_6), (18, .val (.bool) .n (decide (n_9 > (0 : Int))))]) (by subst hA; rfl) ?_
      clear hM hA M A
      refine tr_join (z := r1) (fun y : List Int => cut_grow_J2 t13_6 y) (fun y : List Int => mkSl 30 0 [(4, .val (.box (.arr 6 (.int .i64))) (.b .n) t4_3), (5, .val (.box (.arr 6 (.list (.arr 6 (.int .i64))))) (.b (.a (.l .n))) r_4), (6, .val (.box (.arr 6 (.int .i64))) (.b .n) y), (12, .val (.arr 6 (.int .i64)) .n c_2), (13, .val (.int .i64) .n t13_6)]) [4, 5, 6, 12, 13] (fun _ h => h) (fun y H => ?_) (fun hJ2 => ?_)
      · obtain ⟨out_10, rfl⟩ : ∃ v, v = y := ⟨y, rfl⟩
        replace H : cut_grow_J2 t13_6 out_10 = some r1 := H
        unfold cut_grow_J2 at H
        refine tr_rg hP tabOk hsp fun A hA M hM => ?_
        cbv
        refine hM _ ?_
        exact Exists.intro _ (And.intro (Option.some.inj H).symm (by subst hA; rfl))
      · refine tr_cond rfl (fun hc => ?_) (fun hc => ?_)
        · replace H := if_t H hc
          refine tr_keep [4, 5, 6, 7, 8, 12, 13] (σ' := mkSl 30 0 [(4, .val (.box (.arr 6 (.int .i64))) (.b .n) t4_3), (5, .val (.box (.arr 6 (.list (.arr 6 (.int .i64))))) (.b (.a (.l .n))) r_4), (6, .val (.box (.arr 6 (.int .i64))) (.b .n) out_5), (7, .val (.int .i64) .n t13_6), (8, .val (.int .i64) .n n_9), (12, .val (.arr 6 (.int .i64)) .n c_2), (13, .val (.int .i64) .n t13_6)]) rfl ?_
          refine tr_rg hP tabOk hsp fun A hA M hM => ?_
          cbv
          obtain ⟨ob1, H⟩ := ck_out H
          obtain ⟨ob2, H⟩ := ck_out H
          obtain ⟨r_11, hr3, H⟩ := bind_out H
          obtain ⟨pq3, eq3⟩ := hc17 hr3
          refine ⟨by subst hA; exact ob1, by subst hA; exact ob2, by subst hA; subst eq3; exact pq3, hM _ ?_⟩
          exact hJ2 r_11 _ H (by subst hA; subst eq3; rfl)
        · replace H := if_f H hc
          refine tr_keep [4, 5, 6, 7, 8, 12, 13] (σ' := mkSl 30 0 [(4, .val (.box (.arr 6 (.int .i64))) (.b .n) t4_3), (5, .val (.box (.arr 6 (.list (.arr 6 (.int .i64))))) (.b (.a (.l .n))) r_4), (6, .val (.box (.arr 6 (.int .i64))) (.b .n) out_5), (7, .val (.int .i64) .n t13_6), (8, .val (.int .i64) .n n_9), (12, .val (.arr 6 (.int .i64)) .n c_2), (13, .val (.int .i64) .n t13_6)]) rfl ?_
          refine tr_skip ?_
          exact hJ2 out_5 _ H (by rfl)
    · replace H := if_f H hc
      refine tr_keep [4, 5, 6, 12, 13] (σ' := mkSl 30 0 [(4, .val (.box (.arr 6 (.int .i64))) (.b .n) t4_3), (5, .val (.box (.arr 6 (.list (.arr 6 (.int .i64))))) (.b (.a (.l .n))) r_4), (6, .val (.box (.arr 6 (.int .i64))) (.b .n) out_5), (12, .val (.arr 6 (.int .i64)) .n c_2), (13, .val (.int .i64) .n t13_6)]) rfl ?_
      refine tr_exit ?_
      exact And.intro rfl (Exists.intro _ (And.intro (Option.some.inj H).symm (by rfl)))
theorem cut_grow_sp : ∃ (pg : PT.denL [.list (.st [.int .i64, .int .i64, .int .i64]), .arr 6 (.int .i64)] → Prop) (fg : PT.denL [.list (.st [.int .i64, .int .i64, .int .i64]), .arr 6 (.int .i64)] → PT.denL [.arr 6 (.int .i64)]), SpecRuns Try.prog 35 ⟨[.list (.st [.int .i64, .int .i64, .int .i64]), .arr 6 (.int .i64)], [.v, .v], [.arr 6 (.int .i64)], [.n], pg, fg⟩ ∧ (∀ {a1 : List ((Int × Int × Int × Unit))} {a2 : List Int} {y : List Int}, cut_grow a1 a2 = some y → pg (a1, a2, ()) ∧ y = (fg (a1, a2, ())).1) ∧ (∀ {a1 : List ((Int × Int × Int × Unit))} {a2 : List Int}, (cut_grow a1 a2).isSome = true → pg (a1, a2, ())) ∧ ∀ {a1 : List ((Int × Int × Int × Unit))} {a2 : List Int}, (cut_grow a1 a2).getD (List.replicate 6 (0 : Int)) = (fg (a1, a2, ())).1 := by
  obtain ⟨pg, fg, h, hc, hi, hd⟩ := spec_hide cut_grow_runs
  refine ⟨pg, fg, h, ?_, ?_, ?_⟩
  · intro a1 a2 y e
    obtain ⟨h1, h2⟩ := hc (a1, a2, ()) (y, ()) (congrArg (Option.map fun r => (r, ())) e)
    exact ⟨h1, by first | (rw [h2]; done) | (rw [h2]; rfl)⟩
  · intro a1 a2
    intro e
    exact hi (a1, a2, ()) (map_isSome e)
  · intro a1 a2
    rw [hd (a1, a2, ())]
    cases cut_grow a1 a2 <;> rfl
end Go.Proofs.Ytdahfpfkjljojaa.Ct
