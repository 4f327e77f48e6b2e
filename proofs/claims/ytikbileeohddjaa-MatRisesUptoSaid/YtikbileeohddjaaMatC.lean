/- The functions New, Did and Firm of package mat: what each computes. -/
import Derived.Test.YtikbileeohddjaaMatB
set_option maxHeartbeats 1000000
set_option maxRecDepth 20000
set_option linter.unusedSimpArgs false
set_option linter.unusedVariables false
namespace Go.Proofs.Ytikbileeohddjaa.MatT
open Go Go.Proofs.Ytikbileeohddjaa.Sy Go.Proofs
def matSpec (f : MD → MD × Int) : FSpec := ⟨[MT], [.v], [MT, .int .i64], [.n, .n], fun _ => True, fun x => ((f x.1).1, (f x.1).2, ())⟩
def newSpec (f : Int → Int → MD × Int) : FSpec := ⟨[.int .i64, .int .i64], [.v, .v], [MT, .int .i64], [.n, .n], fun _ => True, fun x => ((f x.1 x.2.1).1, (f x.1 x.2.1).2, ())⟩
def firmSpec (f : MD → VD × Int) : FSpec := ⟨[MT], [.v], [VT, .int .i64], [.n, .n], fun _ => True, fun x => ((f x.1).1, (f x.1).2, ())⟩
def zeroR : List (List Int) := List.replicate 6 (List.replicate 6 0)
def zeroM : MV := (0, 0, zeroR, ())
def newF (n me : Int) : MV × Int := if chkF (n, me, zeroR, ()) = 0 then ((n, me, zeroR, ()), 0) else (zeroM, chkF (n, me, zeroR, ()))
def didF (v : MV) : MV × Int :=
  if chkF v = 0 then
    if atM v.2.2.1 v.2.1.toNat v.2.1.toNat = 16777215 then (zeroM, 8)
    else ((v.1, v.2.1, v.2.2.1.set v.2.1.toNat ((rowM v.2.2.1 v.2.1.toNat).set v.2.1.toNat (arR .add .i64 (atM v.2.2.1 v.2.1.toNat v.2.1.toNat) 1)), ()), 0)
  else (zeroM, chkF v)
def firmRow (r : List (List Int)) (a : List Int) (k : Nat) : List Int := (List.range k).foldl (fun a i => vecF mnI a (rowM r i)) a
def firmF (v : MV) : List Int × Int := if chkF v = 0 then (firmRow v.2.2.1 (rowM v.2.2.1 v.2.1.toNat) v.1.toNat, 0) else (List.replicate 6 0, chkF v)
theorem chk_in {v : MV} (h : chkF v = 0) : 1 ≤ v.1 ∧ v.1 ≤ 6 ∧ 0 ≤ v.2.1 ∧ v.2.1 < v.1 := by
  simp only [chkF] at h
  split at h
  · omega
  · omega
theorem new_runs : SpecRuns Try.prog 7 (newSpec newF) := by
  have h1 : SpecsOk Try.prog [(13, chkSpec chkF)] := specsOk_cons Try.func13 (by kernel_rfl) (by kernel_rfl) chk_runs specsOk_nil
  obtain ⟨chk, hchk⟩ : ∃ c : MD → Int, c = chkF := ⟨_, rfl⟩
  obtain ⟨new, hnew⟩ : ∃ c : Int → Int → MD × Int, c = newF := ⟨_, rfl⟩
  rw [← hchk] at h1
  rw [← hnew]
  refine runs_of_walk (s := newSpec new) tabOk h1 Try.func7 rfl (Nat.le_of_ble_eq_true rfl) rfl ?_
  rintro E ⟨(n : Int), (me : Int), ⟨⟩⟩ A0 L hP hpre hw hA0 hL
  refine ⟨?_⟩
  cbv
  refine ite_intro hA0 (fun hc => ?_) (fun hc => ?_)
  · have hk : ¬ chkF (n, me, zeroR, ()) = 0 := by
      subst hA0 hchk
      have hc : (chkF (n, me, zeroR, ()) != 0) = true := hc
      simpa using hc
    clear hc
    subst hA0 hchk hnew
    refine pair2 ?_
    show _ = newF n me
    simp only [newF]
    rw [if_neg hk]
    rfl
  · have hk : chkF (n, me, zeroR, ()) = 0 := by
      subst hA0 hchk
      have hc : (chkF (n, me, zeroR, ()) != 0) = false := hc
      simpa using hc
    clear hc
    subst hA0 hchk hnew
    refine pair2 ?_
    show _ = newF n me
    simp only [newF]
    rw [if_pos hk]
    rfl
theorem did_runs : SpecRuns Try.prog 8 (matSpec didF) := by
  have h1 : SpecsOk Try.prog [(13, chkSpec chkF)] := specsOk_cons Try.func13 (by kernel_rfl) (by kernel_rfl) chk_runs specsOk_nil
  obtain ⟨chk, hchk⟩ : ∃ c : MD → Int, c = chkF := ⟨_, rfl⟩
  obtain ⟨did, hdid⟩ : ∃ c : MD → MD × Int, c = didF := ⟨_, rfl⟩
  rw [← hchk] at h1
  rw [← hdid]
  refine runs_of_walk (s := matSpec did) tabOk h1 Try.func8 rfl (Nat.le_of_ble_eq_true rfl) rfl ?_
  rintro E ⟨⟨(n : Int), (me : Int), (rows : List (List Int)), ⟨⟩⟩, ⟨⟩⟩ A0 L hP hpre hw hA0 hL
  refine ⟨?_⟩
  cbv
  refine ite_intro hA0 (fun hc => ?_) (fun hc => ?_)
  · have hk : ¬ chkF (n, me, rows, ()) = 0 := by
      subst hA0 hchk
      have hc : (chkF (n, me, rows, ()) != 0) = true := hc
      simpa using hc
    clear hc
    subst hA0 hchk hdid
    refine pair2 ?_
    show _ = didF (n, me, rows, ())
    simp only [didF]
    rw [if_neg hk]
    rfl
  have hk : chkF (n, me, rows, ()) = 0 := by
    subst hA0 hchk
    have hc : (chkF (n, me, rows, ()) != 0) = false := hc
    simpa using hc
  clear hc
  obtain ⟨q1, q2, q3, q4⟩ := chk_in hk
  dsimp only at q1 q2 q3 q4
  have hmi : 0 ≤ me ∧ me < Int.ofNat 6 := by show 0 ≤ me ∧ me < 6; omega
  refine ⟨by subst hA0; exact hmi, by subst hA0; exact hmi, ite_intro hA0 (fun hc => ?_) (fun hc => ?_)⟩
  · have hx : atM rows me.toNat me.toNat = 16777215 := by subst hA0; exact beq_iff_eq.1 hc
    clear hc
    subst hA0 hchk hdid
    refine pair2 ?_
    show _ = didF (n, me, rows, ())
    simp only [didF]
    rw [if_pos hk, if_pos hx]
    rfl
  · have hx : ¬ atM rows me.toNat me.toNat = 16777215 := by
      subst hA0
      intro e
      have hc : (atM rows me.toNat me.toNat == 16777215) = false := hc
      rw [e] at hc; cases hc
    clear hc
    refine ⟨by subst hA0; exact hmi, by subst hA0; exact hmi, by subst hA0; exact hmi, by subst hA0; exact hmi, ?_⟩
    subst hA0 hchk hdid
    refine pair2 ?_
    show _ = didF (n, me, rows, ())
    simp only [didF]
    rw [if_pos hk, if_neg hx]
    rfl
theorem firm_runs : SpecRuns Try.prog 9 (firmSpec firmF) := by
  have h1 : SpecsOk Try.prog [(13, chkSpec chkF), (16, vecSpec (vecF mnI))] := specsOk_cons Try.func13 (by kernel_rfl) (by kernel_rfl) chk_runs (specsOk_cons Try.func16 (by kernel_rfl) (by kernel_rfl) min_runs specsOk_nil)
  obtain ⟨chk, hchk⟩ : ∃ c : MD → Int, c = chkF := ⟨_, rfl⟩
  obtain ⟨mn, hmn⟩ : ∃ c : VD → VD → VD, c = vecF mnI := ⟨_, rfl⟩
  obtain ⟨firm, hfirm⟩ : ∃ c : MD → VD × Int, c = firmF := ⟨_, rfl⟩
  rw [← hchk, ← hmn] at h1
  rw [← hfirm]
  refine runs_of_walk (s := firmSpec firm) tabOk h1 Try.func9 rfl (Nat.le_of_ble_eq_true rfl) rfl ?_
  rintro E ⟨⟨(n : Int), (me : Int), (rows : List (List Int)), ⟨⟩⟩, ⟨⟩⟩ A0 L hP hpre hw hA0 hL
  refine ⟨?_⟩
  cbv
  refine ite_intro hA0 (fun hc => ?_) (fun hc => ?_)
  · have hk : ¬ chkF (n, me, rows, ()) = 0 := by
      subst hA0 hchk
      have hc : (chkF (n, me, rows, ()) != 0) = true := hc
      simpa using hc
    clear hc
    subst hA0 hchk hfirm
    refine pair2 ?_
    show _ = firmF (n, me, rows, ())
    simp only [firmF]
    rw [if_neg hk]
    rfl
  have hk : chkF (n, me, rows, ()) = 0 := by
    subst hA0 hchk
    have hc : (chkF (n, me, rows, ()) != 0) = false := hc
    simpa using hc
  clear hc
  obtain ⟨q1, q2, q3, q4⟩ := chk_in hk
  dsimp only at q1 q2 q3 q4
  have hmi : 0 ≤ me ∧ me < Int.ofNat 6 := by show 0 ≤ me ∧ me < 6; omega
  refine ⟨by subst hA0; exact hmi, ?_⟩
  refine loop_w (P := Try.prog) hP hA0 hL tabOk h1 [] [5, 20] (fun x : List Int × Int => [(5, .val (.box VT) (.b .n) x.1), (20, .val (.int .i64) .n x.2)])
    (fun x => (0 ≤ x.2 ∧ x.2 ≤ n) ∧ x.1 = firmRow rows (rowM rows me.toNat) x.2.toNat) (fun x => (n - x.2).toNat) (A0.get VT rows me, 0) (by cbv) ⟨⟨by show (0:Int) ≤ 0; omega, by show (0:Int) ≤ n; omega⟩, by subst hA0; rfl⟩ (by cbv) ?_
  rintro ⟨c, i⟩ ⟨⟨i0, i1⟩, hc⟩ A hA R hR
  dsimp only at i0 i1 hc
  refine ⟨?_⟩
  cbv
  refine ite_intro hA (fun hlt => ?_) (fun hge => ?_)
  · have hi : i < n := by subst hA; exact of_decide_eq_true hlt
    have hin : 0 ≤ i ∧ i < Int.ofNat 6 := by show 0 ≤ i ∧ i < 6; omega
    have e1 : A.ar .add .i64 i 1 = i + 1 := by subst hA; exact add_i64 (by omega)
    refine ⟨by subst hA; exact hin, ?_⟩
    refine hR _ (mn c (A.get VT rows i), A.ar .add .i64 i 1) ⟨?_, ?_⟩ ?_ (by cbv)
    · show 0 ≤ A.ar .add .i64 i 1 ∧ A.ar .add .i64 i 1 ≤ n
      omega
    · show mn c (A.get VT rows i) = firmRow rows (rowM rows me.toNat) (A.ar .add .i64 i 1).toNat
      rw [e1, show (i + 1).toNat = i.toNat + 1 by omega, firmRow, List.range_succ, List.foldl_append]
      subst hA hmn hc
      rfl
    · exact step_lt hi e1
  · have hi : i = n := by
      have : ¬ i < n := by subst hA; exact of_decide_eq_false hge
      omega
    subst hchk hfirm
    refine pair2 ?_
    show (c, (0 : Int)) = firmF (n, me, rows, ())
    simp only [firmF]
    rw [if_pos hk, hc, hi]
end Go.Proofs.Ytikbileeohddjaa.MatT
