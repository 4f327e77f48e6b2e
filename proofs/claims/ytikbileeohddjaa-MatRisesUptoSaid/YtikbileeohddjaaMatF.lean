/- The function Meet of package mat: what it computes. -/
import Derived.Test.YtikbileeohddjaaMatD
set_option maxHeartbeats 1000000
set_option maxRecDepth 20000
set_option linter.unusedSimpArgs false
set_option linter.unusedVariables false
namespace Go.Proofs.Ytikbileeohddjaa.MatT
open Go Go.Proofs.Ytikbileeohddjaa.Sy Go.Proofs
def meetSpec (f : MD → MD → MD × Int) : FSpec := ⟨[MT, MT], [.v, .v], [MT, .int .i64], [.n, .n], fun _ => True, fun x => ((f x.1 x.2.1).1, (f x.1 x.2.1).2, ())⟩
def meetRows (u v : List (List Int)) : List (List Int) := (List.range 6).map fun i => vecF mxI (rowM u i) (rowM v i)
def meetF (u v : MV) : MV × Int :=
  if chkF u = 0 then
    if chkF v = 0 then
      if v.1 ≠ u.1 ∨ v.2.1 = u.2.1 then (zeroM, 1)
      else ((u.1, u.2.1, (meetRows u.2.2.1 v.2.2.1).set u.2.1.toNat (vecF mxI (rowM (meetRows u.2.2.1 v.2.2.1) u.2.1.toNat) (rowM v.2.2.1 v.2.1.toNat)), ()), 0)
    else (zeroM, chkF v)
  else (zeroM, chkF u)
theorem rows_ext {a b : List (List Int)} (ha : a.length = 6) (hb : b.length = 6) (h : ∀ i, i < 6 → rowM a i = rowM b i) : a = b := by
  apply List.ext_getElem (by omega)
  intro i h1 h2
  have := h i (by omega)
  simpa [rowM, List.getD_eq_getElem?_getD, h1, h2] using this
theorem meet_row {u v : List (List Int)} {i : Nat} (h : i < 6) : rowM (meetRows u v) i = vecF mxI (rowM u i) (rowM v i) := by
  simp [rowM, meetRows, List.getD_eq_getElem?_getD, h]
theorem meet_runs : SpecRuns Try.prog 14 (meetSpec meetF) := by
  have h1 : SpecsOk Try.prog [(13, chkSpec chkF), (18, vecSpec (vecF mxI))] := specsOk_cons Try.func13 (by kernel_rfl) (by kernel_rfl) chk_runs (specsOk_cons Try.func18 (by kernel_rfl) (by kernel_rfl) max_runs specsOk_nil)
  obtain ⟨chk, hchk⟩ : ∃ c : MD → Int, c = chkF := ⟨_, rfl⟩
  obtain ⟨mx, hmx⟩ : ∃ c : VD → VD → VD, c = vecF mxI := ⟨_, rfl⟩
  obtain ⟨meet, hmeet⟩ : ∃ c : MD → MD → MD × Int, c = meetF := ⟨_, rfl⟩
  rw [← hchk, ← hmx] at h1
  rw [← hmeet]
  refine runs_of_walk (s := meetSpec meet) tabOk h1 Try.func14 rfl (Nat.le_of_ble_eq_true rfl) rfl ?_
  rintro E ⟨⟨(n : Int), (me : Int), (rows : List (List Int)), ⟨⟩⟩, ⟨(n2 : Int), (me2 : Int), (rows2 : List (List Int)), ⟨⟩⟩, ⟨⟩⟩ A0 L hP hpre hw hA0 hL
  simp only [WfA, meetSpec, Wf, WfL] at hw
  have lr : List.length (α := List Int) rows = 6 := hw.1.2.2.1.1
  refine ⟨?_⟩
  cbv
  refine ite_intro hA0 (fun hc => ?_) (fun hc => ?_)
  · have hk : ¬ chkF (n, me, rows, ()) = 0 := by
      subst hA0 hchk
      have hc : (chkF (n, me, rows, ()) != 0) = true := hc
      simpa using hc
    clear hc
    subst hA0 hchk hmeet
    refine pair2 ?_
    show _ = meetF (n, me, rows, ()) (n2, me2, rows2, ())
    simp only [meetF]
    rw [if_neg hk]
    rfl
  have hk : chkF (n, me, rows, ()) = 0 := by
    subst hA0 hchk
    have hc : (chkF (n, me, rows, ()) != 0) = false := hc
    simpa using hc
  clear hc
  refine ite_intro hA0 (fun hc => ?_) (fun hc => ?_)
  · have hk2 : ¬ chkF (n2, me2, rows2, ()) = 0 := by
      subst hA0 hchk
      have hc : (chkF (n2, me2, rows2, ()) != 0) = true := hc
      simpa using hc
    clear hc
    subst hA0 hchk hmeet
    refine pair2 ?_
    show _ = meetF (n, me, rows, ()) (n2, me2, rows2, ())
    simp only [meetF]
    rw [if_pos hk, if_neg hk2]
    rfl
  have hk2 : chkF (n2, me2, rows2, ()) = 0 := by
    subst hA0 hchk
    have hc : (chkF (n2, me2, rows2, ()) != 0) = false := hc
    simpa using hc
  clear hc
  refine ite_intro hA0 (fun hc => ?_) (fun hc => ?_)
  · have hb : n2 ≠ n ∨ me2 = me := by
      have hc : (n2 != n || me2 == me) = true := by subst hA0; exact hc
      simpa using hc
    clear hc
    subst hA0 hchk hmeet
    refine pair2 ?_
    show _ = meetF (n, me, rows, ()) (n2, me2, rows2, ())
    simp only [meetF]
    rw [if_pos hk, if_pos hk2, if_pos hb]
    rfl
  have hb : ¬ (n2 ≠ n ∨ me2 = me) := by
    have hc : (n2 != n || me2 == me) = false := by subst hA0; exact hc
    intro h
    have : (n2 != n || me2 == me) = true := by simpa using h
    rw [this] at hc; cases hc
  clear hc
  obtain ⟨q1, q2, q3, q4⟩ := chk_in hk
  obtain ⟨p1, p2, p3, p4⟩ := chk_in hk2
  dsimp only at q1 q2 q3 q4 p1 p2 p3 p4
  have hmi : 0 ≤ me ∧ me < Int.ofNat 6 := by show 0 ≤ me ∧ me < 6; omega
  have hmi2 : 0 ≤ me2 ∧ me2 < Int.ofNat 6 := by show 0 ≤ me2 ∧ me2 < 6; omega
  refine loop_w (P := Try.prog) hP hA0 hL tabOk h1 [29] [2, 34] (fun x : List (List Int) × Int => [(2, .val (.box MT) (.b .n) (n, me, x.1, ())), (34, .val (.int .i64) .n x.2)])
    (fun x => (0 ≤ x.2 ∧ x.2 ≤ 6) ∧ x.1.length = 6 ∧ ∀ i, i < 6 → rowM x.1 i = if i < x.2.toNat then vecF mxI (rowM rows i) (rowM rows2 i) else rowM rows i) (fun x => (6 - x.2).toNat) (rows, 0) (by cbv) ⟨by simp, lr, by simp⟩ (by cbv) ?_
  rintro ⟨c, k⟩ ⟨⟨k0, k1⟩, lc, hc⟩ A hA R hR
  dsimp only at k0 k1 lc hc
  refine ⟨?_⟩
  cbv
  refine ite_intro hA (fun hlt => ?_) (fun hge => ?_)
  · have hk6 : k < 6 := by subst hA; exact of_decide_eq_true hlt
    have hin : 0 ≤ k ∧ k < Int.ofNat 6 := ⟨k0, hk6⟩
    have e1 : A.ar .add .i64 k 1 = k + 1 := by subst hA; exact add_i64 (by omega)
    refine ⟨by subst hA; exact hin, by subst hA; exact hin, by subst hA; exact hin, ?_⟩
    have e2 : A.set VT c k (mx (A.get VT c k) (A.get VT rows2 k)) = c.set k.toNat (vecF mxI (rowM c k.toNat) (rowM rows2 k.toNat)) := by subst hA hmx; rfl
    refine hR _ (A.set VT c k (mx (A.get VT c k) (A.get VT rows2 k)), A.ar .add .i64 k 1) ⟨?_, ?_, ?_⟩ ?_ (by cbv)
    · show 0 ≤ A.ar .add .i64 k 1 ∧ A.ar .add .i64 k 1 ≤ 6
      omega
    · show List.length (α := List Int) (A.set VT c k _) = 6
      rw [e2]; exact List.length_set.trans lc
    · show ∀ i, i < 6 → rowM (A.set VT c k _) i = if i < (A.ar .add .i64 k 1).toNat then _ else _
      intro i hi
      rw [e2, e1, row_set (by omega), hc k.toNat (by omega), if_neg (Nat.lt_irrefl _), hc i hi]
      by_cases hik : i = k.toNat
      · subst hik
        rw [if_pos rfl, if_pos (by omega)]
      · rw [if_neg hik]
        by_cases h2 : i < k.toNat
        · rw [if_pos h2, if_pos (by omega)]
        · rw [if_neg h2, if_neg (by omega)]
    · exact step_lt hk6 e1
  · have hk6 : k = 6 := by
      have : ¬ k < 6 := by subst hA; exact of_decide_eq_false hge
      omega
    have hcr : c = meetRows rows rows2 := rows_ext lc (by simp [meetRows]) fun i hi => by rw [hc i hi, if_pos (by omega), meet_row hi]
    refine ⟨by subst hA0; exact hmi, by subst hA0; exact hmi2, by subst hA0; exact hmi, ?_⟩
    clear hR R hge hA A
    subst hA0 hchk hmeet hmx hcr
    refine pair2 ?_
    show _ = meetF (n, me, rows, ()) (n2, me2, rows2, ())
    simp only [meetF]
    rw [if_pos hk, if_pos hk2, if_neg hb]
    rfl
end Go.Proofs.Ytikbileeohddjaa.MatT
