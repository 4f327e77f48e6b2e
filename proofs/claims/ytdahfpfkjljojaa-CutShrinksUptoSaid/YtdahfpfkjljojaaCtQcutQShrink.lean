/- Functions of the program as functions that may fail, and that the code computes them (printed). Each theorem bears its conditions itself. -/
import Derived.Test.YtdahfpfkjljojaaCtDefs
import Derived.Test.YtdahfpfkjljojaaCtTab
import Derived.Test.YtdahfpfkjljojaaCtQcutQCheck
import Derived.Test.YtdahfpfkjljojaaCtQcutQstory
import Derived.Test.YtdahfpfkjljojaaCtQvectQWithin
open Go Go.Proofs.Ytdahfpfkjljojaa.Sy Go.Proofs
set_option maxHeartbeats 4000000
set_option maxRecDepth 100000
set_option cbv.maxSteps 10000000
set_option linter.unusedVariables false
set_option linter.unusedSimpArgs false
namespace Go.Proofs.Ytdahfpfkjljojaa.Ct
theorem cut_Shrink_runs : SpecRuns Try.prog 20 (oSpec [.list (.st [.int .i64, .int .i64, .int .i64]), .arr 6 (.int .i64)] [.v, .v] [.arr 6 (.int .i64), .int .i64] [.n, .n] fun x => (cut_Shrink x.1 x.2.1).map fun r => (r.1, r.2, ())) := by
  obtain ⟨pg34, fg34, hs34, hc34, hi34, hd34⟩ := cut_Check_sp
  obtain ⟨pg36, fg36, hs36, hc36, hi36, hd36⟩ := cut_story_sp
  obtain ⟨pg18, fg18, hs18, hc18, hi18, hd18⟩ := vect_Within_sp
  have hsp : SpecsOk Try.prog [(34, ⟨[.list (.st [.int .i64, .int .i64, .int .i64]), .arr 6 (.int .i64)], [.v, .v], [.int .i64], [.n], pg34, fg34⟩), (36, ⟨[.list (.st [.int .i64, .int .i64, .int .i64])], [.v], [.arr 6 (.list (.arr 6 (.int .i64)))], [.a (.l .n)], pg36, fg36⟩), (18, ⟨[.arr 6 (.int .i64), .arr 6 (.int .i64)], [.v, .v], [.bool], [.n], pg18, fg18⟩)] := (specsOk_cons Try.func34 (by kernel_rfl) (by kernel_rfl) hs34 (specsOk_cons Try.func36 (by kernel_rfl) (by kernel_rfl) hs36 (specsOk_cons Try.func18 (by kernel_rfl) (by kernel_rfl) hs18 specsOk_nil)))
  refine runs_of_o tabOk Try.func20 rfl (Nat.le_of_ble_eq_true rfl) rfl ?_
  rintro E ⟨(h_1 : List ((Int × Int × Int × Unit))), (c_2 : List Int), ⟨⟩⟩ y hP H hw
  obtain ⟨z, H1, rfl⟩ := map_out H
  replace H : cut_Shrink h_1 c_2 = some z := H1
  clear hw H1
  unfold cut_Shrink at H
  refine tr_keep [0, 1] (σ' := mkSl 48 0 [(0, .val (.list (.st [.int .i64, .int .i64, .int .i64])) .n h_1), (1, .val (.arr 6 (.int .i64)) .n c_2)]) rfl ?_
  refine tr_seq ?_
  refine tr_rg hP tabOk hsp fun A hA M hM => ?_
  cbv
  refine hM _ ?_
  refine tr_seq ?_
  refine tr_seq ?_
  refine tr_keepL [0, 3, 4] (fun t4_3 : List Int => mkSl 48 0 [(0, .val (.list (.st [.int .i64, .int .i64, .int .i64])) .n h_1), (3, .val (.box (.arr 6 (.int .i64))) (.b .n) c_2), (4, .val (.box (.arr 6 (.int .i64))) (.b .n) t4_3)]) H (by subst hA; rfl) (fun t4_3 H => ?_)
  clear hM hA M A
  refine tr_rg hP tabOk hsp fun A hA M hM => ?_
  cbv
  obtain ⟨r_4, hr1, H⟩ := bind_out H
  obtain ⟨pq1, eq1⟩ := hc34 hr1
  refine ⟨by subst hA; subst eq1; exact pq1, hM _ ?_⟩
  refine tr_seq ?_
  refine tr_keep [0, 3, 4, 6] (σ' := mkSl 48 0 [(0, .val (.list (.st [.int .i64, .int .i64, .int .i64])) .n h_1), (3, .val (.box (.arr 6 (.int .i64))) (.b .n) c_2), (4, .val (.box (.arr 6 (.int .i64))) (.b .n) t4_3), (6, .val (.int .i64) .n r_4)]) (by subst hA; subst eq1; rfl) ?_
  clear pq1 eq1 hr1 hM hA M A
  refine tr_rg hP tabOk hsp fun A hA M hM => ?_
  cbv
  refine hM _ ?_
  refine tr_keep [0, 3, 4, 6, 14] (σ' := mkSl 48 0 [(0, .val (.list (.st [.int .i64, .int .i64, .int .i64])) .n h_1), (3, .val (.box (.arr 6 (.int .i64))) (.b .n) c_2), (4, .val (.box (.arr 6 (.int .i64))) (.b .n) t4_3), (6, .val (.int .i64) .n r_4), (14, .val (.bool) .n (r_4 != (0 : Int)))]) (by subst hA; rfl) ?_
  clear hM hA M A
  refine tr_cond rfl (fun hc => ?_) (fun hc => ?_)
  · replace H := if_t H hc
    refine tr_keep [0, 3, 4, 6] (σ' := mkSl 48 0 [(0, .val (.list (.st [.int .i64, .int .i64, .int .i64])) .n h_1), (3, .val (.box (.arr 6 (.int .i64))) (.b .n) c_2), (4, .val (.box (.arr 6 (.int .i64))) (.b .n) t4_3), (6, .val (.int .i64) .n r_4)]) rfl ?_
    refine tr_seq ?_
    refine tr_rg hP tabOk hsp fun A hA M hM => ?_
    cbv
    refine hM _ ?_
    refine tr_ret ?_
    have hr := Option.some.inj H
    subst hr
    subst hA
    exact rfl
  · replace H := if_f H hc
    refine tr_keep [0, 3, 4, 6] (σ' := mkSl 48 0 [(0, .val (.list (.st [.int .i64, .int .i64, .int .i64])) .n h_1), (3, .val (.box (.arr 6 (.int .i64))) (.b .n) c_2), (4, .val (.box (.arr 6 (.int .i64))) (.b .n) t4_3), (6, .val (.int .i64) .n r_4)]) rfl ?_
    refine tr_skip ?_
    refine tr_seq ?_
    refine tr_rg hP tabOk hsp fun A hA M hM => ?_
    cbv
    obtain ⟨r_5, hr1, H⟩ := bind_out H
    obtain ⟨pq1, eq1⟩ := hc36 hr1
    refine ⟨by subst hA; subst eq1; exact pq1, hM _ ?_⟩
    refine tr_seq ?_
    refine tr_keep [3, 4, 7] (σ' := mkSl 48 0 [(3, .val (.box (.arr 6 (.int .i64))) (.b .n) c_2), (4, .val (.box (.arr 6 (.int .i64))) (.b .n) t4_3), (7, .val (.box (.arr 6 (.list (.arr 6 (.int .i64))))) (.b (.a (.l .n))) r_5)]) (by subst hA; subst eq1; rfl) ?_
    clear pq1 eq1 hr1 hM hA M A
    refine tr_rg hP tabOk hsp fun A hA M hM => ?_
    cbv
    refine hM _ ?_
    refine tr_seq ?_
    refine tr_seq ?_
    refine tr_keep [3, 4, 7, 8] (σ' := mkSl 48 0 [(3, .val (.box (.arr 6 (.int .i64))) (.b .n) c_2), (4, .val (.box (.arr 6 (.int .i64))) (.b .n) t4_3), (7, .val (.box (.arr 6 (.list (.arr 6 (.int .i64))))) (.b (.a (.l .n))) r_5), (8, .val (.box (.arr 6 (.int .i64))) (.b .n) c_2)]) (by subst hA; rfl) ?_
    clear hM hA M A
    refine tr_rg hP tabOk hsp fun A hA M hM => ?_
    cbv
    refine hM _ ?_
    refine tr_block ?_
    refine tr_keep [3, 4, 7, 8, 20] (σ' := mkSl 48 0 [(3, .val (.box (.arr 6 (.int .i64))) (.b .n) c_2), (4, .val (.box (.arr 6 (.int .i64))) (.b .n) t4_3), (7, .val (.box (.arr 6 (.list (.arr 6 (.int .i64))))) (.b (.a (.l .n))) r_5), (8, .val (.box (.arr 6 (.int .i64))) (.b .n) c_2), (20, .val (.int .i64) .n (0 : Int))]) (by subst hA; rfl) ?_
    clear hM hA M A
    obtain ⟨q_9, hq, H⟩ := bind_out H
    refine tr_loopB 0 (fun x : List Int × Int => cut_Shrink_L1 c_2 r_5 x.1 x.2) (fun x : List Int × Int => mkSl 48 0 [(3, .val (.box (.arr 6 (.int .i64))) (.b .n) c_2), (4, .val (.box (.arr 6 (.int .i64))) (.b .n) t4_3), (7, .val (.box (.arr 6 (.list (.arr 6 (.int .i64))))) (.b (.a (.l .n))) r_5), (8, .val (.box (.arr 6 (.int .i64))) (.b .n) x.1), (20, .val (.int .i64) .n x.2)]) [3, 4, 7, 8, 20] (fun q_9 : List Int => mkSl 48 0 [(4, .val (.box (.arr 6 (.int .i64))) (.b .n) t4_3), (8, .val (.box (.arr 6 (.int .i64))) (.b .n) q_9)]) [4, 8] hq rfl (fun σ' h => ?_) (fun x r1 H => ?_)
    · refine tr_keep [4, 8] h ?_
      refine tr_seq ?_
      refine tr_rg hP tabOk hsp fun A hA M hM => ?_
      cbv
      refine hM _ ?_
      refine tr_ret ?_
      have hr := Option.some.inj H
      subst hr
      subst hA
      exact rfl
    · obtain ⟨out_6, t20_7⟩ := x
      replace H : cut_Shrink_L1 c_2 r_5 out_6 t20_7 = some r1 := H
      unfold cut_Shrink_L1 at H
      refine tr_seq ?_
      refine tr_rg hP tabOk hsp fun A hA M hM => ?_
      cbv
      refine hM _ ?_
      refine tr_seq ?_
      refine tr_keep [3, 4, 7, 8, 20, 21] (σ' := mkSl 48 0 [(3, .val (.box (.arr 6 (.int .i64))) (.b .n) c_2), (4, .val (.box (.arr 6 (.int .i64))) (.b .n) t4_3), (7, .val (.box (.arr 6 (.list (.arr 6 (.int .i64))))) (.b (.a (.l .n))) r_5), (8, .val (.box (.arr 6 (.int .i64))) (.b .n) out_6), (20, .val (.int .i64) .n t20_7), (21, .val (.bool) .n (decide (t20_7 < (6 : Int))))]) (by subst hA; rfl) ?_
      clear hM hA M A
      refine tr_cond rfl (fun hc => ?_) (fun hc => ?_)
      · replace H := if_t H hc
        refine tr_keep [3, 4, 7, 8, 20] (σ' := mkSl 48 0 [(3, .val (.box (.arr 6 (.int .i64))) (.b .n) c_2), (4, .val (.box (.arr 6 (.int .i64))) (.b .n) t4_3), (7, .val (.box (.arr 6 (.list (.arr 6 (.int .i64))))) (.b (.a (.l .n))) r_5), (8, .val (.box (.arr 6 (.int .i64))) (.b .n) out_6), (20, .val (.int .i64) .n t20_7)]) rfl ?_
        refine tr_skip ?_
        refine tr_seq ?_
        refine tr_block ?_
        refine tr_seq ?_
        refine tr_rg hP tabOk hsp fun A hA M hM => ?_
        cbv
        refine hM _ ?_
        refine tr_block ?_
        refine tr_keep [3, 4, 7, 8, 9, 20] (σ' := mkSl 48 0 [(3, .val (.box (.arr 6 (.int .i64))) (.b .n) c_2), (4, .val (.box (.arr 6 (.int .i64))) (.b .n) t4_3), (7, .val (.box (.arr 6 (.list (.arr 6 (.int .i64))))) (.b (.a (.l .n))) r_5), (8, .val (.box (.arr 6 (.int .i64))) (.b .n) out_6), (9, .val (.int .i64) .n t20_7), (20, .val (.int .i64) .n t20_7)]) (by subst hA; rfl) ?_
        clear hM hA M A
        obtain ⟨q_12, hq, H⟩ := bind_out H
        refine tr_loopB 2 (fun x : List Int => cut_Shrink_L2 c_2 r_5 t20_7 x) (fun x : List Int => mkSl 48 0 [(3, .val (.box (.arr 6 (.int .i64))) (.b .n) c_2), (4, .val (.box (.arr 6 (.int .i64))) (.b .n) t4_3), (7, .val (.box (.arr 6 (.list (.arr 6 (.int .i64))))) (.b (.a (.l .n))) r_5), (8, .val (.box (.arr 6 (.int .i64))) (.b .n) x), (9, .val (.int .i64) .n t20_7), (20, .val (.int .i64) .n t20_7)]) [3, 4, 7, 8, 9, 20] (fun q_12 : List Int => mkSl 48 0 [(3, .val (.box (.arr 6 (.int .i64))) (.b .n) c_2), (4, .val (.box (.arr 6 (.int .i64))) (.b .n) t4_3), (7, .val (.box (.arr 6 (.list (.arr 6 (.int .i64))))) (.b (.a (.l .n))) r_5), (8, .val (.box (.arr 6 (.int .i64))) (.b .n) q_12), (20, .val (.int .i64) .n t20_7)]) [3, 4, 7, 8, 20] hq rfl (fun σ' h => ?_) (fun x r2 H => ?_)
        · refine tr_keep [3, 4, 7, 8, 20] h ?_
          refine tr_rg hP tabOk hsp fun A hA M hM => ?_
          cbv
          refine hM _ ?_
          exact Exists.intro _ (And.intro (Option.some.inj H).symm (by subst hA; rfl))
        · obtain ⟨out_10, rfl⟩ : ∃ v, v = x := ⟨x, rfl⟩
          replace H : cut_Shrink_L2 c_2 r_5 t20_7 out_10 = some r2 := H
          unfold cut_Shrink_L2 at H
          refine tr_seq ?_
          refine tr_seq ?_
          refine tr_rg hP tabOk hsp fun A hA M hM => ?_
          cbv
          obtain ⟨ob1, H⟩ := ck_out H
          obtain ⟨ob2, H⟩ := ck_out H
          obtain ⟨ob3, H⟩ := ck_out H
          obtain ⟨ob4, H⟩ := ck_out H
          obtain ⟨r_13, er5, H⟩ := letO_out H
          obtain ⟨ob5, H⟩ := ck_out H
          have eq5 := er5.trans hd18
          refine ⟨by subst hA; exact ob1, by subst hA; exact ob2, by subst hA; exact ob3, by subst hA; exact ob4, by subst hA; subst eq5; exact fun h0 => hi18 (ob5 h0), hM _ ?_⟩
          refine tr_keep [3, 4, 7, 8, 9, 20, 40] (σ' := mkSl 48 0 [(3, .val (.box (.arr 6 (.int .i64))) (.b .n) c_2), (4, .val (.box (.arr 6 (.int .i64))) (.b .n) t4_3), (7, .val (.box (.arr 6 (.list (.arr 6 (.int .i64))))) (.b (.a (.l .n))) r_5), (8, .val (.box (.arr 6 (.int .i64))) (.b .n) out_10), (9, .val (.int .i64) .n t20_7), (20, .val (.int .i64) .n t20_7), (40, .val (.bool) .n ((decide ((out_10.getD t20_7.toNat (0 : Int)) > (0 : Int))) && (!r_13)))]) (by subst hA; subst eq5; rfl) ?_
          clear ob5 eq5 er5 ob4 ob3 ob2 ob1 hM hA M A
          refine tr_cond rfl (fun hc => ?_) (fun hc => ?_)
          · replace H := if_t H hc
            refine tr_keep [3, 4, 7, 8, 9, 20] (σ' := mkSl 48 0 [(3, .val (.box (.arr 6 (.int .i64))) (.b .n) c_2), (4, .val (.box (.arr 6 (.int .i64))) (.b .n) t4_3), (7, .val (.box (.arr 6 (.list (.arr 6 (.int .i64))))) (.b (.a (.l .n))) r_5), (8, .val (.box (.arr 6 (.int .i64))) (.b .n) out_10), (9, .val (.int .i64) .n t20_7), (20, .val (.int .i64) .n t20_7)]) rfl ?_
            refine tr_skip ?_
            refine tr_block ?_
            refine tr_rg hP tabOk hsp fun A hA M hM => ?_
            cbv
            obtain ⟨ob1, H⟩ := ck_out H
            obtain ⟨ob2, H⟩ := ck_out H
            refine ⟨by subst hA; exact ob1, by subst hA; exact ob2, hM _ ?_⟩
            exact Exists.intro _ (And.intro (Option.some.inj H).symm (by subst hA; rfl))
          · replace H := if_f H hc
            refine tr_keep [3, 4, 7, 8, 9, 20] (σ' := mkSl 48 0 [(3, .val (.box (.arr 6 (.int .i64))) (.b .n) c_2), (4, .val (.box (.arr 6 (.int .i64))) (.b .n) t4_3), (7, .val (.box (.arr 6 (.list (.arr 6 (.int .i64))))) (.b (.a (.l .n))) r_5), (8, .val (.box (.arr 6 (.int .i64))) (.b .n) out_10), (9, .val (.int .i64) .n t20_7), (20, .val (.int .i64) .n t20_7)]) rfl ?_
            refine tr_exit ?_
            exact And.intro rfl (Exists.intro _ (And.intro (Option.some.inj H).symm (by rfl)))
      · replace H := if_f H hc
        refine tr_keep [3, 4, 7, 8, 20] (σ' := mkSl 48 0 [(3, .val (.box (.arr 6 (.int .i64))) (.b .n) c_2), (4, .val (.box (.arr 6 (.int .i64))) (.b .n) t4_3), (7, .val (.box (.arr 6 (.list (.arr 6 (.int .i64))))) (.b (.a (.l .n))) r_5), (8, .val (.box (.arr 6 (.int .i64))) (.b .n) out_6), (20, .val (.int .i64) .n t20_7)]) rfl ?_
        refine tr_exit ?_
        exact And.intro rfl (Exists.intro _ (And.intro (Option.some.inj H).symm (by rfl)))
theorem cut_Shrink_sp : ∃ (pg : PT.denL [.list (.st [.int .i64, .int .i64, .int .i64]), .arr 6 (.int .i64)] → Prop) (fg : PT.denL [.list (.st [.int .i64, .int .i64, .int .i64]), .arr 6 (.int .i64)] → PT.denL [.arr 6 (.int .i64), .int .i64]), SpecRuns Try.prog 20 ⟨[.list (.st [.int .i64, .int .i64, .int .i64]), .arr 6 (.int .i64)], [.v, .v], [.arr 6 (.int .i64), .int .i64], [.n, .n], pg, fg⟩ ∧ (∀ {a1 : List ((Int × Int × Int × Unit))} {a2 : List Int} {y : List Int × Int}, cut_Shrink a1 a2 = some y → pg (a1, a2, ()) ∧ y = ((fg (a1, a2, ())).1, (fg (a1, a2, ())).2.1)) ∧ (∀ {a1 : List ((Int × Int × Int × Unit))} {a2 : List Int}, (cut_Shrink a1 a2).isSome = true → pg (a1, a2, ())) ∧ ∀ {a1 : List ((Int × Int × Int × Unit))} {a2 : List Int}, (cut_Shrink a1 a2).getD (List.replicate 6 (0 : Int), (0 : Int)) = ((fg (a1, a2, ())).1, (fg (a1, a2, ())).2.1) := by
  obtain ⟨pg, fg, h, hc, hi, hd⟩ := spec_hide cut_Shrink_runs
  refine ⟨pg, fg, h, ?_, ?_, ?_⟩
  · intro a1 a2 y e
    obtain ⟨h1, h2⟩ := hc (a1, a2, ()) (y.1, y.2, ()) (congrArg (Option.map fun r => (r.1, r.2, ())) e)
    exact ⟨h1, by first | (rw [h2]; done) | (rw [h2]; rfl)⟩
  · intro a1 a2
    intro e
    exact hi (a1, a2, ()) (map_isSome e)
  · intro a1 a2
    rw [hd (a1, a2, ())]
    cases cut_Shrink a1 a2 <;> rfl
end Go.Proofs.Ytdahfpfkjljojaa.Ct
