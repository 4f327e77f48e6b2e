/- What the law MatFirm runs: it returns true for all arguments. -/
import Derived.Test.YtikbileeohddjaaMatD
set_option maxHeartbeats 1000000
set_option maxRecDepth 20000
set_option linter.unusedSimpArgs false
set_option linter.unusedVariables false
namespace Go.Proofs.Ytikbileeohddjaa.MatT
open Go Go.Proofs.Ytikbileeohddjaa.Sy Go.Proofs
theorem eqbV {a b : List Int} (h : a = b) : VT.eqb a b = true := vec_eqb.trans (decide_eq_true h)
theorem firmlaw_runs : SpecRuns Try.prog 3 (lawSpec [MT]) := by
  have h1 : SpecsOk Try.prog [(7, newSpec newF), (8, matSpec didF), (9, firmSpec firmF), (10, withinSpec withinF)] :=
    specsOk_cons Try.func7 (by kernel_rfl) (by kernel_rfl) new_runs (specsOk_cons Try.func8 (by kernel_rfl) (by kernel_rfl) did_runs (specsOk_cons Try.func9 (by kernel_rfl) (by kernel_rfl) firm_runs (specsOk_cons Try.func10 (by kernel_rfl) (by kernel_rfl) within_runs specsOk_nil)))
  obtain ⟨new, hnew⟩ : ∃ c : Int → Int → MD × Int, c = newF := ⟨_, rfl⟩
  obtain ⟨did, hdid⟩ : ∃ c : MD → MD × Int, c = didF := ⟨_, rfl⟩
  obtain ⟨firm, hfirm⟩ : ∃ c : MD → VD × Int, c = firmF := ⟨_, rfl⟩
  obtain ⟨within, hwithin⟩ : ∃ c : VD → VD → Bool, c = withinF := ⟨_, rfl⟩
  rw [← hnew, ← hdid, ← hfirm, ← hwithin] at h1
  refine runs_of_walk (s := lawSpec [MT]) tabOk h1 Try.func3 rfl (Nat.le_of_ble_eq_true rfl) rfl ?_
  rintro E ⟨⟨(n : Int), (me : Int), (rows : List (List Int)), ⟨⟩⟩, ⟨⟩⟩ A0 L hP hpre hw hA0 hL
  simp only [WfA, lawSpec, Wf, WfL, List.map] at hw
  refine walk_seq hA0 hL fun M0 hM0 => ⟨?_⟩
  cbv
  refine hM0 _ (walk_seq hA0 hL fun M1 hM1 => ⟨?_⟩)
  clear hM0 M0
  cbv
  refine hM1 _ (walk_seq hA0 hL fun M2 hM2 => ⟨?_⟩)
  clear hM1 M1
  cbv
  refine ite_intro hA0 (fun hc => ?_) (fun hc => ?_)
  · exfalso
    subst hA0 hnew
    exact absurd hc (by decide +kernel)
  clear hc
  refine hM2 _ (walk_seq hA0 hL fun M3 hM3 => ⟨?_⟩)
  clear hM2 M2
  cbv
  refine ite_intro hA0 (fun hc => ?_) (fun hc => ?_)
  · exfalso
    subst hA0 hnew hdid
    exact absurd hc (by decide +kernel)
  clear hc
  refine hM3 _ (walk_seq hA0 hL fun M4 hM4 => ⟨?_⟩)
  clear hM3 M3
  cbv
  refine ite_intro hA0 (fun hc => ?_) (fun hc => ?_)
  · exfalso
    subst hA0 hnew hdid hfirm
    exact absurd hc (by decide +kernel)
  clear hc
  refine hM4 _ (walk_seq hA0 hL fun M5 hM5 => ⟨?_⟩)
  clear hM4 M4
  cbv
  refine hM5 _ (walk_seq hA0 hL fun M6 hM6 => ⟨?_⟩)
  clear hM5 M5
  cbv
  refine ite_intro hA0 (fun hc => ?_) (fun hc => ?_)
  · have hk : ¬ chkF (n, me, rows, ()) = 0 := by
      intro h
      subst hA0 hfirm
      have hc : ((firmF (n, me, rows, ())).2 != 0) = true := hc
      simp only [firmF] at hc
      rw [if_pos h] at hc
      simp at hc
    have he : (firmF (n, me, rows, ())).1 = List.replicate 6 0 := by simp only [firmF]; rw [if_neg hk]
    clear hc
    subst hA0 hfirm
    refine pair1 ?_
    show VT.eqb (firmF (n, me, rows, ())).1 (List.replicate 6 (0 : Int)) = true
    exact eqbV he
  have hk : chkF (n, me, rows, ()) = 0 := by
    by_cases h : chkF (n, me, rows, ()) = 0
    · exact h
    · exfalso
      subst hA0 hfirm
      have hc : ((firmF (n, me, rows, ())).2 != 0) = false := hc
      simp only [firmF] at hc
      rw [if_neg h] at hc
      simp at hc
      exact h hc
  clear hc
  obtain ⟨q1, q2, q3, q4⟩ := chk_in hk
  dsimp only at q1 q2 q3 q4
  refine hM6 _ (walk_seq hA0 hL fun M7 hM7 => ⟨?_⟩)
  clear hM6 M6
  cbv
  refine loop_w (P := Try.prog) hP hA0 hL tabOk h1 [] [50] (fun x : Int => [(50, .val (.int .i64) .n x)]) (fun i => 0 ≤ i ∧ i ≤ n) (fun i => (n - i).toNat) 0 (by cbv) ⟨by show (0 : Int) ≤ 0; omega, by show (0 : Int) ≤ n; omega⟩ (by cbv) ?_
  rintro i ⟨i0, i1⟩ A hA R hR
  refine ⟨?_⟩
  cbv
  refine ite_intro hA (fun hlt => ?_) (fun hge => ?_)
  · have hi : i < n := by subst hA; exact of_decide_eq_true hlt
    have hin : 0 ≤ i ∧ i < Int.ofNat 6 := by show 0 ≤ i ∧ i < 6; omega
    have e1 : A.ar .add .i64 i 1 = i + 1 := by subst hA; exact add_i64 (by omega)
    have hwi : withinF (firmF (n, me, rows, ())).1 (rowM rows i.toNat) = true := by
      refine within_iff.2 fun j hj => ?_
      exact (firm_min hk hj).1 i.toNat (by dsimp only; omega)
    refine ⟨by subst hA; exact hin, ite_intro hA (fun hc => ?_) (fun hc => ?_)⟩
    · exfalso
      subst hA hfirm hwithin
      have hc : (!withinF (firmF (n, me, rows, ())).1 (rowM rows i.toNat)) = true := hc
      rw [hwi] at hc; cases hc
    · refine hR _ (A.ar .add .i64 i 1) ⟨?_, ?_⟩ ?_ (by cbv)
      · omega
      · omega
      · exact step_lt hi e1
  · refine hM7 _ ⟨?_⟩
    cbv
    have lr : List.length (α := List Int) rows = 6 := hw.1.2.2.1.1
    have lx : ∀ i, i < 6 → (rowM rows i).length = 6 := by
      intro i hi
      have h1 : rowM rows i = rows[i]'(by omega) := by simp [rowM, List.getD_eq_getElem?_getD, lr, hi]
      rw [h1]
      exact (hw.1.2.2.1.2 _ (List.getElem_mem _)).1
    have key : (((didF (n, me, rows, ())).2 != 0) || ((firmF (didF (n, me, rows, ())).1).2 == 0 && ((n == 1) || VT.eqb (firmF (didF (n, me, rows, ())).1).1 (firmF (n, me, rows, ())).1))) = true := by
      by_cases hd : (didF (n, me, rows, ())).2 = 0
      · obtain ⟨d1, d2⟩ := did_firm (v := (n, me, rows, ())) hk lr lx hd
        by_cases hn : n = 1
        · rw [d1, hn]; simp
        · rw [d1, show VT.eqb (firmF (didF (n, me, rows, ())).1).1 (firmF (n, me, rows, ())).1 = true from eqbV (d2 hn)]; simp
      · simp [hd]
    refine pair1 ?_
    clear hR R hge hA A
    subst hA0 hdid hfirm
    exact key
end Go.Proofs.Ytikbileeohddjaa.MatT
