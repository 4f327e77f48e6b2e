/- Compare of package vect, and what the law VectLaws runs: it returns true for every three vectors. -/
import Derived.Test.YtcghecmefpldmaaVect
set_option maxHeartbeats 1000000
set_option maxRecDepth 20000
set_option linter.unusedSimpArgs false
set_option linter.unusedVariables false
namespace Go.Proofs.Ytcghecmefpldmaa.Vect
open Go Go.Proofs.Ytcghecmefpldmaa.Sy Go.Proofs
def cmpSpec (f : VD → VD → Int) : FSpec := ⟨[VT, VT], [.v, .v], [.int .i64], [.n], fun _ => True, fun x => (f x.1 x.2.1, ())⟩
def cmpF (a b : List Int) : Int := if a = b then 0 else if withinF a b = true then 1 else if withinF b a = true then 2 else 3
theorem cmp_runs : SpecRuns Try.prog 12 (cmpSpec cmpF) := by
  have h1 : SpecsOk Try.prog [(13, withinSpec withinF)] := specsOk_cons Try.func13 (by kernel_rfl) (by kernel_rfl) within_runs specsOk_nil
  obtain ⟨wi, hwi⟩ : ∃ c : VD → VD → Bool, c = withinF := ⟨_, rfl⟩
  rw [← hwi] at h1
  obtain ⟨fn, hfn⟩ : ∃ c : VD → VD → Int, c = cmpF := ⟨_, rfl⟩
  rw [← hfn]
  refine runs_of_walk (s := cmpSpec fn) tabOk h1 Try.func12 rfl (Nat.le_of_ble_eq_true rfl) rfl ?_
  rintro E ⟨(a : List Int), (b : List Int), ⟨⟩⟩ A0 L hP hpre hw hA0 hL
  refine ⟨?_⟩
  cbv
  subst hA0
  simp only [real0, cmpR]
  subst hwi hfn
  have key : ∀ x : Bool, VT.eqb a b = x → decide (a = b) = x := fun x h => by rw [← h]; exact vec_eqb.symm
  refine ⟨fun h => pair1 ?_, fun h => ⟨fun h2 => pair1 ?_, fun h2 => ⟨fun h3 => pair1 ?_, fun h3 => pair1 ?_⟩⟩⟩
  · have h := of_decide_eq_true (key _ h)
    show 0 = cmpF a b
    unfold cmpF; rw [if_pos h]
  all_goals
    have h := of_decide_eq_false (key _ h)
    show _ = cmpF a b
    unfold cmpF; rw [if_neg h]
  · rw [if_pos h2]
  · rw [if_neg (by simp [h2]), if_pos h3]
  · rw [if_neg (by simp [h2]), if_neg (by simp [h3])]
theorem within_anti {a b : List Int} (ha : a.length = 6) (hb : b.length = 6) (h1 : withinF a b = true) (h2 : withinF b a = true) : a = b :=
  vec_ext ha hb fun j hj => by
    have := within_iff.1 h1 j hj
    have := within_iff.1 h2 j hj
    omega
theorem cmp_cases {a b : List Int} (ha : a.length = 6) (hb : b.length = 6) : (cmpF a b = 0 ∧ cmpF b a = 0) ∨ (cmpF a b = 1 ∧ cmpF b a = 2) ∨ (cmpF a b = 2 ∧ cmpF b a = 1) ∨ (cmpF a b = 3 ∧ cmpF b a = 3) := by
  by_cases e : a = b
  · subst e
    left; simp [cmpF]
  have e' : ¬ b = a := fun h => e h.symm
  unfold cmpF
  rw [if_neg e, if_neg e']
  cases h1 : withinF a b <;> cases h2 : withinF b a
  · right; right; right; simp
  · right; right; left; simp
  · right; left; simp
  · exact absurd (within_anti ha hb h1 h2) e
theorem within_max {a b : List Int} (hb : b.length = 6) : withinF a b = VT.eqb (vecF mxI a b) b := by
  rw [vec_eqb, Bool.eq_iff_iff, decide_eq_true_eq]
  constructor
  · intro h
    refine vec_ext (vec_len _ _ _) hb fun j hj => ?_
    have := within_iff.1 h j hj
    rw [vec_at _ _ _ hj]
    unfold mxI; split <;> omega
  · intro h
    refine within_iff.2 fun j hj => ?_
    have h2 := vec_at mxI a b hj
    rw [h] at h2
    unfold mxI at h2; split at h2 <;> omega
theorem within_min {a b : List Int} (ha : a.length = 6) : withinF a b = VT.eqb (vecF mnI a b) a := by
  rw [vec_eqb, Bool.eq_iff_iff, decide_eq_true_eq]
  constructor
  · intro h
    refine vec_ext (vec_len _ _ _) ha fun j hj => ?_
    have := within_iff.1 h j hj
    rw [vec_at _ _ _ hj]
    unfold mnI; split <;> omega
  · intro h
    refine within_iff.2 fun j hj => ?_
    have h2 := vec_at mnI a b hj
    rw [h] at h2
    unfold mnI at h2; split at h2 <;> omega
theorem law1 {a b : List Int} (ha : a.length = 6) : vecF mxI a (vecF mnI a b) = a :=
  vec_ext (vec_len _ _ _) ha fun j hj => by
    rw [vec_at _ _ _ hj, vec_at _ _ _ hj]
    unfold mxI mnI; repeat' split
    all_goals omega
theorem law2 {a b c : List Int} : vecF mnI a (vecF mxI b c) = vecF mxI (vecF mnI a b) (vecF mnI a c) :=
  vec_ext (vec_len _ _ _) (vec_len _ _ _) fun j hj => by
    rw [vec_at _ _ _ hj, vec_at _ _ _ hj, vec_at _ _ _ hj, vec_at _ _ _ hj, vec_at _ _ _ hj]
    unfold mxI mnI; repeat' split
    all_goals omega
theorem law3 {a b c : List Int} : vecF mxI a (vecF mxI b c) = vecF mxI (vecF mxI a b) c :=
  vec_ext (vec_len _ _ _) (vec_len _ _ _) fun j hj => by
    rw [vec_at _ _ _ hj, vec_at _ _ _ hj, vec_at _ _ _ hj, vec_at _ _ _ hj]
    unfold mxI; repeat' split
    all_goals omega
theorem bool_eqb (x y : Bool) : PT.bool.eqb x y = (x == y) := by simp only [PT.eqb]
theorem laws_runs : SpecRuns Try.prog 3 (lawSpec [VT, VT, VT]) := by
  have h1 : SpecsOk Try.prog [(12, cmpSpec cmpF), (13, withinSpec withinF), (14, vecSpec (vecF mxI)), (15, vecSpec (vecF mnI))] :=
    specsOk_cons Try.func12 (by kernel_rfl) (by kernel_rfl) cmp_runs (specsOk_cons Try.func13 (by kernel_rfl) (by kernel_rfl) within_runs (specsOk_cons Try.func14 (by kernel_rfl) (by kernel_rfl) max_runs (specsOk_cons Try.func15 (by kernel_rfl) (by kernel_rfl) min_runs specsOk_nil)))
  obtain ⟨wi, hwi⟩ : ∃ c : VD → VD → Bool, c = withinF := ⟨_, rfl⟩
  obtain ⟨cm, hcm⟩ : ∃ c : VD → VD → Int, c = cmpF := ⟨_, rfl⟩
  obtain ⟨mx, hmx⟩ : ∃ c : VD → VD → VD, c = vecF mxI := ⟨_, rfl⟩
  obtain ⟨mn, hmn⟩ : ∃ c : VD → VD → VD, c = vecF mnI := ⟨_, rfl⟩
  rw [← hwi, ← hcm, ← hmx, ← hmn] at h1
  refine runs_of_walk (s := lawSpec [VT, VT, VT]) tabOk h1 Try.func3 rfl (Nat.le_of_ble_eq_true rfl) rfl ?_
  rintro E ⟨(a : List Int), (b : List Int), (c : List Int), ⟨⟩⟩ A0 L hP hpre hw hA0 hL
  simp only [WfA, lawSpec, Wf, WfL, List.map] at hw
  refine walk_seq hA0 hL fun M hM => ?_
  refine ⟨?_⟩
  cbv
  refine hM _ (walk_seq hA0 hL fun M2 hM2 => ⟨?_⟩)
  clear hM M
  cbv
  refine ⟨imp_intro hA0 fun _ => trivial, ite_intro hA0 (fun hc => ?_) (fun hc => ?_)⟩
  · exfalso
    subst hA0 hcm
    exact absurd hc (by decide +kernel)
  clear hc
  refine hM2 _ (walk_seq hA0 hL fun M hM => ⟨?_⟩)
  clear hM2 M2
  cbv
  refine hM _ (walk_seq hA0 hL fun M2 hM2 => ⟨?_⟩)
  clear hM M
  cbv
  refine hM2 _ (walk_seq hA0 hL fun M hM => ⟨?_⟩)
  clear hM2 M2
  cbv
  have la : a.length = 6 := hw.1.1
  have lb : b.length = 6 := hw.2.1.1
  have lc : c.length = 6 := hw.2.2.1.1
  subst hcm hwi hmx hmn
  refine ⟨imp_intro hA0 fun _ => trivial, imp_intro hA0 fun hk => ?_, imp_intro hA0 fun _ => trivial, imp_intro hA0 fun _ => trivial, imp_intro hA0 fun _ => trivial, imp_intro hA0 fun _ => trivial, ite_intro hA0 (fun hc => ?_) (fun hc => ?_)⟩
  · have : 0 ≤ cmpF a b ∧ cmpF a b < 4 := by
      rcases cmp_cases la lb with h | h | h | h <;> omega
    subst hA0
    exact this
  · exfalso
    subst hA0
    simp only [real0, cmpR] at hc
    dsimp only [PT.den, PT.denL, PT.dflt] at hc
    rw [bool_eqb, bool_eqb, ← within_max lb, ← within_min la] at hc
    rcases cmp_cases la lb with ⟨h, h'⟩ | ⟨h, h'⟩ | ⟨h, h'⟩ | ⟨h, h'⟩ <;> rw [h, h'] at hc <;> simp at hc
  clear hc
  refine hM _ ⟨?_⟩
  clear hM M
  generalize hcm : cmpF = cm at *
  generalize hmx : vecF mxI = mx at *
  generalize hmn : vecF mnI = mn at *
  generalize hwi : withinF = wi at *
  cbv
  repeat (refine ⟨imp_intro hA0 fun _ => trivial, ?_⟩)
  refine pair1 ?_
  subst hcm hmx hmn hwi hA0
  show (VT.eqb (vecF mxI a (vecF mnI a b)) a && VT.eqb (vecF mnI a (vecF mxI b c)) (vecF mxI (vecF mnI a b) (vecF mnI a c)) && VT.eqb (vecF mxI a (vecF mxI b c)) (vecF mxI (vecF mxI a b) c)) = true
  rw [law1 la, law2, law3, vec_eqb, vec_eqb, vec_eqb]
  simp
end Go.Proofs.Ytcghecmefpldmaa.Vect
