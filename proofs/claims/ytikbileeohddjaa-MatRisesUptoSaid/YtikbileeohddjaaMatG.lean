/- A meeting loses nothing, is idempotent, keeps what is firm, and yields a right matrix. -/
import Derived.Test.YtikbileeohddjaaMatF
set_option maxHeartbeats 1000000
set_option maxRecDepth 20000
set_option linter.unusedSimpArgs false
set_option linter.unusedVariables false
namespace Go.Proofs.Ytikbileeohddjaa.MatT
open Go Go.Proofs.Ytikbileeohddjaa.Sy Go.Proofs
theorem mxI_le (x y : Int) : x ≤ mxI x y ∧ y ≤ mxI x y ∧ (mxI x y = x ∨ mxI x y = y) := by
  simp only [mxI]; split <;> omega
def meetR (u v : MV) : List (List Int) := (meetRows u.2.2.1 v.2.2.1).set u.2.1.toNat (vecF mxI (rowM (meetRows u.2.2.1 v.2.2.1) u.2.1.toNat) (rowM v.2.2.1 v.2.1.toNat))
theorem meet_len (u v : MV) : (meetR u v).length = 6 := by simp [meetR, meetRows]
theorem meet_at {u v : MV} (h0 : u.2.1.toNat < 6) {i j : Nat} (hi : i < 6) (hj : j < 6) : atM (meetR u v) i j = if i = u.2.1.toNat then mxI (mxI (atM u.2.2.1 i j) (atM v.2.2.1 i j)) (atM v.2.2.1 v.2.1.toNat j) else mxI (atM u.2.2.1 i j) (atM v.2.2.1 i j) := by
  simp only [atM, meetR]
  rw [row_set (by simpa [meetRows] using h0)]
  split
  · rename_i h; subst h
    rw [vec_at _ _ _ hj, meet_row hi, vec_at _ _ _ hj]
  · rw [meet_row hi, vec_at _ _ _ hj]
theorem meet_rl {u v : MV} (h0 : u.2.1.toNat < 6) {i : Nat} (hi : i < 6) : (rowM (meetR u v) i).length = 6 := by
  simp only [meetR]
  rw [row_set (by simpa [meetRows] using h0)]
  split
  · exact vec_len _ _ _
  · rw [meet_row hi]; exact vec_len _ _ _
/-- What a meeting does that is let in. -/
theorem meet_ok {u v : MV} (hu : chkF u = 0) (hv : chkF v = 0) (hn : v.1 = u.1) (hm : v.2.1 ≠ u.2.1) :
    meetF u v = ((u.1, u.2.1, meetR u v, ()), 0) ∧ chkF (u.1, u.2.1, meetR u v, ()) = 0 ∧ (∀ i j, i < 6 → j < 6 → atM u.2.2.1 i j ≤ atM (meetR u v) i j ∧ atM v.2.2.1 i j ≤ atM (meetR u v) i j) ∧ meetF (u.1, u.2.1, meetR u v, ()) v = ((u.1, u.2.1, meetR u v, ()), 0) := by
  obtain ⟨q1, q2, q3, q4⟩ := chk_in hu
  obtain ⟨p1, p2, p3, p4⟩ := chk_in hv
  have hb : ¬ (v.1 ≠ u.1 ∨ v.2.1 = u.2.1) := fun h => h.elim (fun h => h hn) hm
  have hle : ∀ i j, i < 6 → j < 6 → atM u.2.2.1 i j ≤ atM (meetR u v) i j ∧ atM v.2.2.1 i j ≤ atM (meetR u v) i j := by
    intro i j hi hj
    rw [meet_at (by omega) hi hj]
    have a := mxI_le (atM u.2.2.1 i j) (atM v.2.2.1 i j)
    have b := mxI_le (mxI (atM u.2.2.1 i j) (atM v.2.2.1 i j)) (atM v.2.2.1 v.2.1.toNat j)
    split <;> omega
  have hown : ∀ j, j < 6 → atM v.2.2.1 v.2.1.toNat j ≤ atM (meetR u v) u.2.1.toNat j := by
    intro j hj
    rw [meet_at (by omega) (by omega) hj, if_pos rfl]
    exact (mxI_le _ _).2.1
  have e1 : meetF u v = ((u.1, u.2.1, meetR u v, ()), 0) := by
    simp only [meetF]
    rw [if_pos hu, if_pos hv, if_neg hb]
    rfl
  have hck : chkF (u.1, u.2.1, meetR u v, ()) = 0 := by
    refine ok_chk ⟨q1, q2, q3, q4⟩ fun i j hi hj => ?_
    obtain ⟨u1, u2, u3⟩ := chk_ok hu i j hi hj
    obtain ⟨v1, v2, v3⟩ := chk_ok hv i j hi hj
    obtain ⟨w1, w2, w3⟩ := chk_ok hv v.2.1.toNat j (by omega) hj
    have m1 := hle u.2.1.toNat j (by omega) hj
    have m2 := hown j hj
    have a := mxI_le (atM u.2.2.1 i j) (atM v.2.2.1 i j)
    have b := mxI_le (mxI (atM u.2.2.1 i j) (atM v.2.2.1 i j)) (atM v.2.2.1 v.2.1.toNat j)
    dsimp only
    have c := meet_at (u := u) (v := v) (i := i) (j := j) (by omega) hi hj
    by_cases hiu : i = u.2.1.toNat
    · rw [if_pos hiu] at c
      refine ⟨by omega, fun h => ?_, ?_⟩
      · refine ⟨by omega, ?_⟩
        by_cases h1 : atM u.2.2.1 i j > 0
        · exact (u2 h1).2
        · by_cases h2 : atM v.2.2.1 i j > 0
          · have := (v2 h2).2; omega
          · have := (w2 (by omega)).2; omega
      · rw [← hiu]; exact Int.le_refl _
    · rw [if_neg hiu] at c
      refine ⟨by omega, fun h => ?_, ?_⟩
      · by_cases h1 : atM u.2.2.1 i j > 0
        · exact u2 h1
        · have := v2 (by omega); omega
      · omega
  refine ⟨e1, hck, hle, ?_⟩
  have hb2 : ¬ (v.1 ≠ (u.1, u.2.1, meetR u v, ()).1 ∨ v.2.1 = (u.1, u.2.1, meetR u v, ()).2.1) := hb
  have e3 : meetR (u.1, u.2.1, meetR u v, ()) v = meetR u v := by
    refine rows_ext (meet_len _ _) (meet_len _ _) fun i hi => ?_
    refine vec_ext (meet_rl (by dsimp only; omega) hi) (meet_rl (by omega) hi) fun j hj => ?_
    show atM (meetR (u.1, u.2.1, meetR u v, ()) v) i j = atM (meetR u v) i j
    rw [meet_at (by dsimp only; omega) hi hj]
    dsimp only
    have m1 := hle i j hi hj
    have m2 := hown j hj
    have a := mxI_le (atM (meetR u v) i j) (atM v.2.2.1 i j)
    have b := mxI_le (mxI (atM (meetR u v) i j) (atM v.2.2.1 i j)) (atM v.2.2.1 v.2.1.toNat j)
    split
    · rename_i h; subst h; omega
    · omega
  have e4 : meetF (u.1, u.2.1, meetR u v, ()) v = ((u.1, u.2.1, meetR (u.1, u.2.1, meetR u v, ()) v, ()), 0) := by
    simp only [meetF]
    rw [if_pos hck, if_pos hv, if_neg hb2]
    rfl
  rw [e4, e3]
theorem meet_firm {u v : MV} (hu : chkF u = 0) (hv : chkF v = 0) (hn : v.1 = u.1) (hm : v.2.1 ≠ u.2.1) : withinF (firmF u).1 (firmF (u.1, u.2.1, meetR u v, ())).1 = true := by
  obtain ⟨e1, hck, hle, e2⟩ := meet_ok hu hv hn hm
  obtain ⟨q1, q2, q3, q4⟩ := chk_in hu
  refine within_iff.2 fun j hj => ?_
  obtain ⟨a1, _⟩ := firm_min hu hj
  obtain ⟨_, i, b2, b3⟩ := firm_min hck hj
  dsimp only at b2 b3
  rw [b3]
  have := a1 i b2
  have := (hle i j (by omega) hj).1
  omega
theorem meet_no {u v : MV} (h : ¬ (chkF u = 0 ∧ chkF v = 0 ∧ v.1 = u.1 ∧ v.2.1 ≠ u.2.1)) : (meetF u v).1 = zeroM ∧ (meetF u v).2 ≠ 0 := by
  simp only [meetF]
  split
  · split
    · split
      · exact ⟨rfl, by decide⟩
      · rename_i a b c
        exfalso
        exact h ⟨a, b, Classical.not_not.1 (fun e => c (Or.inl e)), fun e => c (Or.inr e)⟩
    · rename_i b; exact ⟨rfl, b⟩
  · rename_i b; exact ⟨rfl, b⟩
theorem lists_eqb {k : IntKind} : ∀ (x : List (List Int)), listEqb (PT.arr 6 (PT.int k)).eqb x x = true
  | [] => rfl
  | a :: x => by
    have h1 : (PT.arr 6 (PT.int k)).eqb a a = true := by simp only [PT.eqb]; exact listEqb_int.2 rfl
    have h2 := lists_eqb (k := k) x
    simp only [listEqb, h1, h2, Bool.and_self]
theorem mat_eqb (v : MV) : MT.eqb v v = true := by
  obtain ⟨a, b, c, ⟨⟩⟩ := v
  have h1 : (PT.int .i64).eqb a a = true := by simp [PT.eqb]
  have h2 : (PT.int .i64).eqb b b = true := by simp [PT.eqb]
  have h3 := lists_eqb (k := .i64) c
  have e : MT.eqb (a, b, c, ()) (a, b, c, ()) = ((PT.int .i64).eqb a a && ((PT.int .i64).eqb b b && ((PT.arr 6 (PT.arr 6 (PT.int .i64))).eqb c c && true))) := by
    simp only [PT.eqb, PT.eqbL]
  have h4 : (PT.arr 6 (PT.arr 6 (PT.int .i64))).eqb c c = true := h3
  exact e.trans (by rw [h1, h2, h4]; rfl)
end Go.Proofs.Ytikbileeohddjaa.MatT
