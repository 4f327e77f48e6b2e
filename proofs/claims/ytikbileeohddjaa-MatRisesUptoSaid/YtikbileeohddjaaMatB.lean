/- The function Check of package mat: what it computes. -/
import Derived.Test.YtikbileeohddjaaMat
set_option maxHeartbeats 1000000
set_option maxRecDepth 20000
set_option linter.unusedSimpArgs false
set_option linter.unusedVariables false
namespace Go.Proofs.Ytikbileeohddjaa.MatT
open Go Go.Proofs.Ytikbileeohddjaa.Sy Go.Proofs
abbrev RT : PT := .arr 6 (.arr 6 (.int .i64))
abbrev MT : PT := .st [.int .i64, .int .i64, RT]
abbrev MD := MT.den
abbrev MV := Int × Int × List (List Int) × Unit
def rowM (r : List (List Int)) (i : Nat) : List Int := r.getD i (List.replicate 6 0)
def atM (r : List (List Int)) (i j : Nat) : Int := (rowM r i).getD j 0
def cellF (v : MV) (i j : Int) : Int :=
  if atM v.2.2.1 i.toNat j.toNat < 0 ∨ atM v.2.2.1 i.toNat j.toNat > 16777215 then 1
  else if (atM v.2.2.1 i.toNat j.toNat > 0 ∧ (i ≥ v.1 ∨ j ≥ v.1)) ∨ atM v.2.2.1 i.toNat j.toNat > atM v.2.2.1 v.2.1.toNat j.toNat then 4 else 0
def rowFrom (v : MV) (i : Int) : Nat → Int → Int
  | 0, _ => 0
  | k + 1, j => if cellF v i j = 0 then rowFrom v i k (j + 1) else cellF v i j
def matFrom (v : MV) : Nat → Int → Int
  | 0, _ => 0
  | k + 1, i => if rowFrom v i 6 0 = 0 then matFrom v k (i + 1) else rowFrom v i 6 0
def chkF (v : MV) : Int := if v.1 < 1 ∨ v.1 > 6 ∨ v.2.1 < 0 ∨ v.2.1 ≥ v.1 then 1 else matFrom v 6 0
def chkSpec (chk : MD → Int) : FSpec := ⟨[MT], [.v], [.int .i64], [.n], fun _ => True, fun x => (chk x.1, ())⟩
theorem step_lt {i e n : Int} (h : i < n) (he : e = i + 1) : (n - e).toNat < (n - i).toNat := by omega
theorem row_step (v : MV) (i j : Int) (h : j < 6) : rowFrom v i (6 - j).toNat j = if cellF v i j = 0 then rowFrom v i (6 - (j + 1)).toNat (j + 1) else cellF v i j := by
  rw [show (6 - j).toNat = (6 - (j + 1)).toNat + 1 by omega]; rfl
theorem mat_step (v : MV) (i : Int) (h : i < 6) : matFrom v (6 - i).toNat i = if rowFrom v i 6 0 = 0 then matFrom v (6 - (i + 1)).toNat (i + 1) else rowFrom v i 6 0 := by
  rw [show (6 - i).toNat = (6 - (i + 1)).toNat + 1 by omega]; rfl
theorem chk_runs : SpecRuns Try.prog 13 (chkSpec chkF) := by
  obtain ⟨chk, hchk⟩ : ∃ c : MD → Int, c = chkF := ⟨_, rfl⟩
  rw [← hchk]
  refine runs_of_walk (s := chkSpec chk) tabOk specsOk_nil Try.func13 rfl (Nat.le_of_ble_eq_true rfl) rfl ?_
  rintro E ⟨⟨(n : Int), (me : Int), (rows : List (List Int)), ⟨⟩⟩, ⟨⟩⟩ A0 L hP hpre hw hA0 hL
  simp only [WfA, chkSpec, Wf, WfL] at hw
  refine ⟨?_⟩
  cbv
  refine ite_intro hA0 (fun hc => ?_) (fun hc => ?_)
  · have hk : n < 1 ∨ n > 6 ∨ me < 0 ∨ me ≥ n := by
      subst hA0
      simp only [real0, cmpR] at hc
      simpa [or_assoc] using hc
    subst hA0 hchk
    refine pair1 ?_
    show 1 = chkF (n, me, rows, ())
    simp only [chkF]
    rw [if_pos hk]
  have hk : ¬ (n < 1 ∨ n > 6 ∨ me < 0 ∨ me ≥ n) := by
    subst hA0
    simp only [real0, cmpR] at hc
    intro h
    simp only [Bool.or_eq_false_iff, decide_eq_false_iff_not] at hc
    omega
  clear hc
  have hv : chkF (n, me, rows, ()) = matFrom (n, me, rows, ()) 6 0 := by simp only [chkF]; rw [if_neg hk]
  have hmi : 0 ≤ me ∧ me < Int.ofNat 6 := by show 0 ≤ me ∧ me < 6; omega
  refine loop_w (P := Try.prog) hP hA0 hL tabOk specsOk_nil [] [29] (fun x : Int => [(29, .val (.int .i64) .n x)])
    (fun i => (0 ≤ i ∧ i ≤ 6) ∧ matFrom (n, me, rows, ()) (6 - i).toNat i = matFrom (n, me, rows, ()) 6 0) (fun i => (6 - i).toNat) 0 (by cbv) ⟨by simp, rfl⟩ (by cbv) ?_
  rintro i ⟨⟨i0, i1⟩, hI⟩ A hA R hR
  refine ⟨?_⟩
  cbv
  refine ite_intro hA (fun hlt => ?_) (fun hge => ?_)
  · have hi : i < 6 := by subst hA; exact of_decide_eq_true hlt
    have hin : 0 ≤ i ∧ i < Int.ofNat 6 := ⟨i0, hi⟩
    have e1 : A.ar .add .i64 i 1 = i + 1 := by subst hA; exact add_i64 (by omega)
    refine ⟨by subst hA; exact hin, ?_⟩
    refine loop_w (P := Try.prog) hP hA hL tabOk specsOk_nil [] [34] (fun x : Int => [(34, .val (.int .i64) .n x)])
      (fun j => (0 ≤ j ∧ j ≤ 6) ∧ rowFrom (n, me, rows, ()) i (6 - j).toNat j = rowFrom (n, me, rows, ()) i 6 0) (fun j => (6 - j).toNat) 0 (by cbv) ⟨by simp, rfl⟩ (by cbv) ?_
    rintro j ⟨⟨j0, j1⟩, hJ⟩ A' hA' R' hR'
    refine ⟨?_⟩
    cbv
    refine ite_intro hA' (fun hlt' => ?_) (fun hge' => ?_)
    · have hj : j < 6 := by subst hA'; exact of_decide_eq_true hlt'
      have hjn : 0 ≤ j ∧ j < Int.ofNat 6 := ⟨j0, hj⟩
      have e2 : A'.ar .add .i64 j 1 = j + 1 := by subst hA'; exact add_i64 (by omega)
      have hX : A'.get (.int .i64) (A.get (.arr 6 (.int .i64)) rows i) j = atM rows i.toNat j.toNat := by subst hA' hA; rfl
      have hY : A'.get (.int .i64) (A'.get (.arr 6 (.int .i64)) rows me) j = atM rows me.toNat j.toNat := by subst hA'; rfl
      have early : ∀ c, c ≠ 0 → cellF (n, me, rows, ()) i j = c → chkF (n, me, rows, ()) = c := by
        intro c h0 hc
        have hr : rowFrom (n, me, rows, ()) i 6 0 = c := by
          rw [← hJ, row_step _ i j hj, if_neg (by rw [hc]; exact h0)]; exact hc
        rw [hv, ← hI, mat_step _ i hi, if_neg (by rw [hr]; exact h0), hr]
      obtain ⟨X, hXe⟩ : ∃ X : Int, X = atM rows i.toNat j.toNat := ⟨_, rfl⟩
      obtain ⟨Y, hYe⟩ : ∃ Y : Int, Y = atM rows me.toNat j.toNat := ⟨_, rfl⟩
      have hcell : cellF (n, me, rows, ()) i j = if X < 0 ∨ X > 16777215 then 1 else if (X > 0 ∧ (i ≥ n ∨ j ≥ n)) ∨ X > Y then 4 else 0 := by rw [hXe, hYe]; rfl
      rw [← hXe] at hX
      rw [← hYe] at hY
      refine ⟨by subst hA'; exact hjn, ite_intro hA' (fun hb => ?_) (fun hb => ?_)⟩
      · have hb : X < 0 ∨ X > 16777215 := by
          have hb : (decide (X < 0) || decide (X > 16777215)) = true := by rw [← hX]; subst hA'; exact hb
          simpa using hb
        refine pair1 ?_
        subst hchk
        exact (early 1 (by decide) (by rw [hcell, if_pos hb])).symm
      have hb : ¬ (X < 0 ∨ X > 16777215) := by
        have hb : (decide (X < 0) || decide (X > 16777215)) = false := by rw [← hX]; subst hA'; exact hb
        intro h
        have : (decide (X < 0) || decide (X > 16777215)) = true := by simpa using h
        rw [this] at hb; cases hb
      refine ⟨by subst hA'; exact imp_intro rfl fun _ => hmi, by subst hA'; exact imp_intro rfl fun _ => hjn, ite_intro hA' (fun hb2 => ?_) (fun hb2 => ?_)⟩
      · have hb2 : (X > 0 ∧ (i ≥ n ∨ j ≥ n)) ∨ X > Y := by
          have hb2 : (decide (X > 0) && (decide (i ≥ n) || decide (j ≥ n)) || decide (X > Y)) = true := by rw [← hX, ← hY]; subst hA'; exact hb2
          simpa using hb2
        refine pair1 ?_
        subst hchk
        exact (early 4 (by decide) (by rw [hcell, if_neg hb, if_pos hb2])).symm
      · have hb2 : ¬ ((X > 0 ∧ (i ≥ n ∨ j ≥ n)) ∨ X > Y) := by
          have hb2 : (decide (X > 0) && (decide (i ≥ n) || decide (j ≥ n)) || decide (X > Y)) = false := by rw [← hX, ← hY]; subst hA'; exact hb2
          intro h
          have : (decide (X > 0) && (decide (i ≥ n) || decide (j ≥ n)) || decide (X > Y)) = true := by simpa using h
          rw [this] at hb2; cases hb2
        refine hR' _ (A'.ar .add .i64 j 1) ⟨?_, ?_⟩ ?_ (by cbv)
        · show 0 ≤ A'.ar .add .i64 j 1 ∧ A'.ar .add .i64 j 1 ≤ 6
          omega
        · rw [e2]
          rw [row_step _ i j hj, hcell, if_neg hb, if_neg hb2, if_pos rfl] at hJ
          exact hJ
        · exact step_lt hj e2
    · have hj : j = 6 := by
        have : ¬ j < 6 := by subst hA'; exact of_decide_eq_false hge'
        omega
      rw [hj] at hJ
      have hr : rowFrom (n, me, rows, ()) i 6 0 = 0 := hJ.symm
      refine hR _ (A.ar .add .i64 i 1) ⟨?_, ?_⟩ ?_ (by cbv)
      · show 0 ≤ A.ar .add .i64 i 1 ∧ A.ar .add .i64 i 1 ≤ 6
        omega
      · rw [e1]
        rw [mat_step _ i hi, if_pos hr] at hI
        exact hI
      · exact step_lt hi e1
  · have hi : i = 6 := by
      have : ¬ i < 6 := by subst hA; exact of_decide_eq_false hge
      omega
    refine pair1 ?_
    subst hchk
    rw [hi] at hI
    exact (hv.trans hI.symm).symm
end Go.Proofs.Ytikbileeohddjaa.MatT
