/- What the law MatRises runs: it returns true for all arguments. -/
import Derived.Test.YtikbileeohddjaaMatG
set_option maxHeartbeats 1000000
set_option maxRecDepth 20000
set_option linter.unusedSimpArgs false
set_option linter.unusedVariables false
namespace Go.Proofs.Ytikbileeohddjaa.MatT
open Go Go.Proofs.Ytikbileeohddjaa.Sy Go.Proofs
theorem riselaw_runs : SpecRuns Try.prog 5 (lawSpec [MT, MT]) := by
  have h1 : SpecsOk Try.prog [(7, newSpec newF), (8, matSpec didF), (9, firmSpec firmF), (10, withinSpec withinF), (14, meetSpec meetF), (13, chkSpec chkF)] :=
    specsOk_cons Try.func7 (by kernel_rfl) (by kernel_rfl) new_runs (specsOk_cons Try.func8 (by kernel_rfl) (by kernel_rfl) did_runs (specsOk_cons Try.func9 (by kernel_rfl) (by kernel_rfl) firm_runs (specsOk_cons Try.func10 (by kernel_rfl) (by kernel_rfl) within_runs (specsOk_cons Try.func14 (by kernel_rfl) (by kernel_rfl) meet_runs (specsOk_cons Try.func13 (by kernel_rfl) (by kernel_rfl) chk_runs specsOk_nil)))))
  obtain ⟨new, hnew⟩ : ∃ c : Int → Int → MD × Int, c = newF := ⟨_, rfl⟩
  obtain ⟨did, hdid⟩ : ∃ c : MD → MD × Int, c = didF := ⟨_, rfl⟩
  obtain ⟨firm, hfirm⟩ : ∃ c : MD → VD × Int, c = firmF := ⟨_, rfl⟩
  obtain ⟨within, hwithin⟩ : ∃ c : VD → VD → Bool, c = withinF := ⟨_, rfl⟩
  obtain ⟨meet, hmeet⟩ : ∃ c : MD → MD → MD × Int, c = meetF := ⟨_, rfl⟩
  obtain ⟨chk, hchk⟩ : ∃ c : MD → Int, c = chkF := ⟨_, rfl⟩
  rw [← hnew, ← hdid, ← hfirm, ← hwithin, ← hmeet, ← hchk] at h1
  refine runs_of_walk (s := lawSpec [MT, MT]) tabOk h1 Try.func5 rfl (Nat.le_of_ble_eq_true rfl) rfl ?_
  rintro E ⟨⟨(n : Int), (me : Int), (rows : List (List Int)), ⟨⟩⟩, ⟨(n2 : Int), (me2 : Int), (rows2 : List (List Int)), ⟨⟩⟩, ⟨⟩⟩ A0 L hP hpre hw hA0 hL
  refine walk_seq hA0 hL fun M0 hM0 => ⟨?_⟩
  cbv
  refine hM0 _ (walk_seq hA0 hL fun M1 hM1 => ⟨?_⟩)
  clear hM0 M0
  cbv
  refine hM1 _ (walk_seq hA0 hL fun M2 hM2 => ⟨?_⟩)
  clear hM1 M1
  cbv
  refine hM2 _ (walk_seq hA0 hL fun M3 hM3 => ⟨?_⟩)
  clear hM2 M2
  cbv
  refine ite_intro hA0 (fun hc => ?_) (fun hc => ?_)
  · exfalso
    subst hA0 hnew
    exact absurd hc (by decide +kernel)
  clear hc
  refine hM3 _ (walk_seq hA0 hL fun M4 hM4 => ⟨?_⟩)
  clear hM3 M3
  cbv
  refine ite_intro hA0 (fun hc => ?_) (fun hc => ?_)
  · exfalso
    subst hA0 hnew hdid
    exact absurd hc (by decide +kernel)
  clear hc
  refine hM4 _ (walk_seq hA0 hL fun M5 hM5 => ⟨?_⟩)
  clear hM4 M4
  cbv
  refine ⟨by subst hA0; exact imp_intro rfl fun _ => ⟨by decide, by decide⟩, by subst hA0; exact imp_intro rfl fun _ => ⟨by decide, by decide⟩, ?_⟩
  refine ite_intro hA0 (fun hc => ?_) (fun hc => ?_)
  · exfalso
    subst hA0 hnew hdid hmeet
    exact absurd hc (by decide +kernel)
  clear hc
  refine hM5 _ (walk_seq hA0 hL fun M6 hM6 => ⟨?_⟩)
  clear hM5 M5
  cbv
  refine hM6 _ (walk_seq hA0 hL fun M7 hM7 => ⟨?_⟩)
  clear hM6 M6
  cbv
  refine ite_intro hA0 (fun hc => ?_) (fun hc => ?_)
  · have hno : ¬ (chkF (n, me, rows, ()) = 0 ∧ chkF (n2, me2, rows2, ()) = 0 ∧ n2 = n ∧ me2 ≠ me) := by
      rintro ⟨a, b, c, d⟩
      have e := (meet_ok (u := (n, me, rows, ())) (v := (n2, me2, rows2, ())) a b c d).1
      subst hA0 hmeet
      have hc : ((meetF (n, me, rows, ()) (n2, me2, rows2, ())).2 != 0) = true := hc
      rw [e] at hc
      exact absurd hc (by simp)
    have he := (meet_no (u := (n, me, rows, ())) (v := (n2, me2, rows2, ())) hno).1
    have key : MT.eqb (meetF (n, me, rows, ()) (n2, me2, rows2, ())).1 zeroM = true := by rw [he]; exact mat_eqb zeroM
    clear hc
    subst hA0 hmeet
    refine pair1 ?_
    exact key
  have hyes : chkF (n, me, rows, ()) = 0 ∧ chkF (n2, me2, rows2, ()) = 0 ∧ n2 = n ∧ me2 ≠ me := by
    apply Classical.not_not.1
    intro h
    have h2 := (meet_no (u := (n, me, rows, ())) (v := (n2, me2, rows2, ())) h).2
    subst hA0 hmeet
    have hc : ((meetF (n, me, rows, ()) (n2, me2, rows2, ())).2 != 0) = false := hc
    simp at hc
    exact h2 hc
  clear hc
  obtain ⟨ku, kv, kn, km⟩ := hyes
  obtain ⟨e1, ew, hle, e2⟩ := meet_ok (u := (n, me, rows, ())) (v := (n2, me2, rows2, ())) ku kv kn km
  have hfm := meet_firm (u := (n, me, rows, ())) (v := (n2, me2, rows2, ())) ku kv kn km
  obtain ⟨W, hW⟩ : ∃ W : List (List Int), W = meetR (n, me, rows, ()) (n2, me2, rows2, ()) := ⟨_, rfl⟩
  rw [← hW] at e1 ew hle e2 hfm
  dsimp only at e1 ew hle e2 hfm
  refine hM7 _ (walk_seq hA0 hL fun M8 hM8 => ⟨?_⟩)
  clear hM7 M7
  cbv
  refine hM8 _ (walk_seq hA0 hL fun M9 hM9 => ⟨?_⟩)
  clear hM8 M8
  cbv
  refine hM9 _ (walk_seq hA0 hL fun M10 hM10 => ⟨?_⟩)
  clear hM9 M9
  cbv
  refine hM10 _ (walk_seq hA0 hL fun M11 hM11 => ⟨?_⟩)
  clear hM10 M10
  cbv
  refine loop_w (P := Try.prog) hP hA0 hL tabOk h1 [] [84] (fun x : Int => [(84, .val (.int .i64) .n x)]) (fun i => 0 ≤ i ∧ i ≤ 6) (fun i => (6 - i).toNat) 0 (by cbv) ⟨by show (0 : Int) ≤ 0; omega, by show (0 : Int) ≤ 6; omega⟩ (by cbv) ?_
  rintro i ⟨i0, i1⟩ A hA R hR
  refine ⟨?_⟩
  cbv
  refine ite_intro hA (fun hlt => ?_) (fun hge => ?_)
  · have hi : i < 6 := by subst hA; exact of_decide_eq_true hlt
    have hin : 0 ≤ i ∧ i < Int.ofNat 6 := ⟨i0, hi⟩
    have e3 : A.ar .add .i64 i 1 = i + 1 := by subst hA; exact add_i64 (by omega)
    have w1 : withinF (rowM rows i.toNat) (rowM W i.toNat) = true := within_iff.2 fun j hj => (hle i.toNat j (by omega) hj).1
    have w2 : withinF (rowM rows2 i.toNat) (rowM W i.toNat) = true := within_iff.2 fun j hj => (hle i.toNat j (by omega) hj).2
    refine ⟨by subst hA; exact hin, by subst hA; exact hin, by subst hA; exact imp_intro rfl fun _ => hin, by subst hA; exact imp_intro rfl fun _ => hin, by subst hA; exact imp_intro rfl fun _ => trivial, ite_intro hA (fun hc => ?_) (fun hc => ?_)⟩
    · exfalso
      subst hA hwithin hmeet
      have hc : (!withinF (rowM rows i.toNat) (rowM (meetF (n, me, rows, ()) (n2, me2, rows2, ())).1.2.2.1 i.toNat) || !withinF (rowM rows2 i.toNat) (rowM (meetF (n, me, rows, ()) (n2, me2, rows2, ())).1.2.2.1 i.toNat)) = true := hc
      rw [e1] at hc
      dsimp only at hc
      rw [w1, w2] at hc
      exact absurd hc (by decide)
    · refine hR _ (A.ar .add .i64 i 1) ⟨?_, ?_⟩ ?_ (by cbv)
      · show 0 ≤ A.ar .add .i64 i 1
        omega
      · show A.ar .add .i64 i 1 ≤ 6
        omega
      · exact step_lt hi e3
  · refine hM11 _ ⟨?_⟩
    cbv
    have key : ((((meetF (meetF (n, me, rows, ()) (n2, me2, rows2, ())).1 (n2, me2, rows2, ())).2 == 0 && MT.eqb (meetF (meetF (n, me, rows, ()) (n2, me2, rows2, ())).1 (n2, me2, rows2, ())).1 (meetF (n, me, rows, ()) (n2, me2, rows2, ())).1) && withinF (firmF (n, me, rows, ())).1 (firmF (meetF (n, me, rows, ()) (n2, me2, rows2, ())).1).1) && chkF (meetF (n, me, rows, ()) (n2, me2, rows2, ())).1 == 0) = true := by
      rw [e1]
      dsimp only
      rw [e2, ew, hfm]
      dsimp only
      rw [mat_eqb]
      rfl
    refine ⟨imp_intro hA0 fun _ => trivial, imp_intro hA0 fun _ => trivial, pair1 ?_⟩
    clear hR R hge hA A hM11 M11
    subst hA0 hmeet hfirm hwithin hchk
    exact key
end Go.Proofs.Ytikbileeohddjaa.MatT
