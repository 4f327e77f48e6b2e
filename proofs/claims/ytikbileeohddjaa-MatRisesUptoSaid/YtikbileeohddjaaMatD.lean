/- What a right matrix is, and that an action leaves the firm vector as it is. -/
import Derived.Test.YtikbileeohddjaaMatC
set_option maxHeartbeats 1000000
set_option maxRecDepth 20000
set_option linter.unusedSimpArgs false
set_option linter.unusedVariables false
namespace Go.Proofs.Ytikbileeohddjaa.MatT
open Go Go.Proofs.Ytikbileeohddjaa.Sy Go.Proofs
/-- What a right matrix is. -/
theorem chk_ok {v : MV} (h : chkF v = 0) : ∀ i j : Nat, i < 6 → j < 6 → (0 ≤ atM v.2.2.1 i j ∧ atM v.2.2.1 i j ≤ 16777215) ∧ (atM v.2.2.1 i j > 0 → (i : Int) < v.1 ∧ (j : Int) < v.1) ∧ atM v.2.2.1 i j ≤ atM v.2.2.1 v.2.1.toNat j := by
  have hin := chk_in h
  simp only [chkF] at h
  rw [if_neg (by omega)] at h
  intro i j hi hj
  have hr : ∀ (k : Nat) (i : Int), matFrom v k i = 0 → ∀ a, i ≤ a → a < i + k → rowFrom v a 6 0 = 0 := by
    intro k
    induction k with
    | zero => intro i _ a h1 h2; omega
    | succ k ih =>
      intro i h a h1 h2
      simp only [matFrom] at h
      split at h
      · rename_i hb
        by_cases ha : a = i
        · subst ha; exact hb
        · exact ih (i + 1) h a (by omega) (by omega)
      · rename_i hb; exact absurd h hb
  have hc : ∀ (i : Int) (k : Nat) (j : Int), rowFrom v i k j = 0 → ∀ a, j ≤ a → a < j + k → cellF v i a = 0 := by
    intro i k
    induction k with
    | zero => intro j _ a h1 h2; omega
    | succ k ih =>
      intro j h a h1 h2
      simp only [rowFrom] at h
      split at h
      · rename_i hb
        by_cases ha : a = j
        · subst ha; exact hb
        · exact ih (j + 1) h a (by omega) (by omega)
      · rename_i hb; exact absurd h hb
  have := hc i 6 0 (hr 6 0 h i (by omega) (by omega)) j (by omega) (by omega)
  simp only [cellF, Int.toNat_natCast] at this
  split at this
  · omega
  · split at this
    · omega
    · omega
theorem ok_chk {v : MV} (h1 : 1 ≤ v.1 ∧ v.1 ≤ 6 ∧ 0 ≤ v.2.1 ∧ v.2.1 < v.1) (h2 : ∀ i j : Nat, i < 6 → j < 6 → (0 ≤ atM v.2.2.1 i j ∧ atM v.2.2.1 i j ≤ 16777215) ∧ (atM v.2.2.1 i j > 0 → (i : Int) < v.1 ∧ (j : Int) < v.1) ∧ atM v.2.2.1 i j ≤ atM v.2.2.1 v.2.1.toNat j) : chkF v = 0 := by
  simp only [chkF]
  rw [if_neg (by omega)]
  have hcell : ∀ i j : Int, 0 ≤ i → i < 6 → 0 ≤ j → j < 6 → cellF v i j = 0 := by
    intro i j i0 i1 j0 j1
    obtain ⟨a1, a2, a3⟩ := h2 i.toNat j.toNat (by omega) (by omega)
    simp only [cellF]
    rw [if_neg (by omega), if_neg (by omega)]
  have hc : ∀ (i : Int) (k : Nat) (j : Int), 0 ≤ i → i < 6 → 0 ≤ j → j + k ≤ 6 → rowFrom v i k j = 0 := by
    intro i k
    induction k with
    | zero => intro j _ _ _ _; rfl
    | succ k ih =>
      intro j i0 i1 j0 j1
      simp only [rowFrom]
      rw [if_pos (hcell i j i0 i1 j0 (by omega))]
      exact ih (j + 1) i0 i1 (by omega) (by omega)
  have hr : ∀ (k : Nat) (i : Int), 0 ≤ i → i + k ≤ 6 → matFrom v k i = 0 := by
    intro k
    induction k with
    | zero => intro i _ _; rfl
    | succ k ih =>
      intro i i0 i1
      simp only [matFrom]
      rw [if_pos (hc i 6 0 i0 (by omega) (by omega) (by omega))]
      exact ih (i + 1) (by omega) (by omega)
  exact hr 6 0 (by omega) (by omega)
theorem firm_succ (r : List (List Int)) (a : List Int) (k : Nat) : firmRow r a (k + 1) = vecF mnI (firmRow r a k) (rowM r k) := by
  simp only [firmRow, List.range_succ, List.foldl_append]; rfl
theorem mnI_le (x y : Int) : mnI x y ≤ x ∧ mnI x y ≤ y ∧ (mnI x y = x ∨ mnI x y = y) := by
  simp only [mnI]; split <;> omega
theorem firm_le {r : List (List Int)} {a : List Int} {j : Nat} (hj : j < 6) : ∀ k, (firmRow r a k).getD j 0 ≤ a.getD j 0 ∧ ∀ i, i < k → (firmRow r a k).getD j 0 ≤ atM r i j := by
  intro k
  induction k with
  | zero => exact ⟨Int.le_refl _, fun i h => by omega⟩
  | succ k ih =>
    rw [firm_succ, vec_at _ _ _ hj]
    obtain ⟨m1, m2, m3⟩ := mnI_le ((firmRow r a k).getD j 0) ((rowM r k).getD j 0)
    refine ⟨by omega, fun i h => ?_⟩
    by_cases hi : i = k
    · subst hi; exact m2
    · have := ih.2 i (by omega); omega
theorem firm_is {r : List (List Int)} {a : List Int} {j : Nat} (hj : j < 6) : ∀ k, (firmRow r a k).getD j 0 = a.getD j 0 ∨ ∃ i, i < k ∧ (firmRow r a k).getD j 0 = atM r i j := by
  intro k
  induction k with
  | zero => exact Or.inl rfl
  | succ k ih =>
    rw [firm_succ, vec_at _ _ _ hj]
    obtain ⟨m1, m2, m3⟩ := mnI_le ((firmRow r a k).getD j 0) ((rowM r k).getD j 0)
    rcases m3 with m3 | m3
    · rw [m3]
      rcases ih with h | ⟨i, h1, h2⟩
      · exact Or.inl h
      · exact Or.inr ⟨i, by omega, h2⟩
    · rw [m3]; exact Or.inr ⟨k, by omega, rfl⟩
theorem firm_len {r : List (List Int)} {a : List Int} (k : Nat) : (firmRow r a (k + 1)).length = 6 := by
  rw [firm_succ]; exact vec_len _ _ _
/-- A right matrix's firm vector: the least of the known rows. -/
theorem firm_min {v : MV} (h : chkF v = 0) {j : Nat} (hj : j < 6) : (∀ i : Nat, (i : Int) < v.1 → (firmF v).1.getD j 0 ≤ atM v.2.2.1 i j) ∧ ∃ i : Nat, (i : Int) < v.1 ∧ (firmF v).1.getD j 0 = atM v.2.2.1 i j := by
  obtain ⟨q1, q2, q3, q4⟩ := chk_in h
  simp only [firmF]
  rw [if_pos h]
  refine ⟨fun i hi => (firm_le hj _).2 i (by omega), ?_⟩
  rcases firm_is (r := v.2.2.1) (a := rowM v.2.2.1 v.2.1.toNat) hj v.1.toNat with h | ⟨i, h1, h2⟩
  · exact ⟨v.2.1.toNat, by omega, h⟩
  · exact ⟨i, by omega, h2⟩
theorem firm_len2 {v : MV} : (firmF v).1.length = 6 := by
  simp only [firmF]
  split
  · rename_i h
    obtain ⟨q1, q2, q3, q4⟩ := chk_in h
    dsimp only
    rw [show v.1.toNat = (v.1.toNat - 1) + 1 by omega]; exact firm_len _
  · simp
theorem row_set {r : List (List Int)} {k i : Nat} {x : List Int} (h : k < r.length) : rowM (r.set k x) i = if i = k then x else rowM r i := by
  simp only [rowM, List.getD_eq_getElem?_getD, List.getElem?_set]
  by_cases hik : i = k
  · subst hik; simp [h]
  · rw [if_neg (fun e => hik e.symm), if_neg hik]
theorem at_set {r : List (List Int)} {k c i j : Nat} {x : Int} (h : k < r.length) (h2 : c < (rowM r k).length) : atM (r.set k ((rowM r k).set c x)) i j = if i = k ∧ j = c then x else atM r i j := by
  simp only [atM]
  rw [row_set h]
  by_cases hik : i = k
  · subst hik
    rw [if_pos rfl, getD_set h2]
    by_cases hjc : j = c
    · rw [if_pos hjc, if_pos ⟨rfl, hjc⟩]
    · rw [if_neg hjc, if_neg (fun e => hjc e.2)]
  · rw [if_neg hik, if_neg (fun e => hik e.1)]
/-- An action leaves the firm vector as it is, if there is another process. -/
theorem did_firm {v : MV} (h : chkF v = 0) (hl : v.2.2.1.length = 6) (hr : ∀ i, i < 6 → (rowM v.2.2.1 i).length = 6) (hd : (didF v).2 = 0) : (firmF (didF v).1).2 = 0 ∧ (v.1 ≠ 1 → (firmF (didF v).1).1 = (firmF v).1) := by
  obtain ⟨q1, q2, q3, q4⟩ := chk_in h
  have ho := chk_ok h
  simp only [didF] at hd ⊢
  rw [if_pos h] at hd ⊢
  split at hd
  · omega
  rename_i hx
  rw [if_neg hx]
  obtain ⟨x, hxe⟩ : ∃ x, x = atM v.2.2.1 v.2.1.toNat v.2.1.toNat := ⟨_, rfl⟩
  have hox := ho v.2.1.toNat v.2.1.toNat (by omega) (by omega)
  rw [← hxe] at hx hox ⊢
  have e : arR .add .i64 x 1 = x + 1 := add_i64 (by omega)
  rw [e]
  obtain ⟨r, hre⟩ : ∃ r, r = v.2.2.1.set v.2.1.toNat ((rowM v.2.2.1 v.2.1.toNat).set v.2.1.toNat (x + 1)) := ⟨_, rfl⟩
  have hat : ∀ i j, atM r i j = if i = v.2.1.toNat ∧ j = v.2.1.toNat then x + 1 else atM v.2.2.1 i j := fun i j => by
    rw [hre]; exact at_set (by omega) (by rw [hr _ (by omega)]; omega)
  rw [← hre]
  have hck : chkF (v.1, v.2.1, r, ()) = 0 := by
    refine ok_chk ⟨q1, q2, q3, q4⟩ fun i j hi hj => ?_
    obtain ⟨o1, o2, o3⟩ := ho i j hi hj
    have o4 := ho v.2.1.toNat j (by omega) hj
    dsimp only
    rw [hat i j, hat v.2.1.toNat j]
    by_cases c1 : i = v.2.1.toNat ∧ j = v.2.1.toNat
    · rw [if_pos c1, if_pos ⟨rfl, c1.2⟩]
      omega
    · rw [if_neg c1]
      refine ⟨o1, o2, ?_⟩
      split
      · rename_i c2
        rw [c2.2] at o3 ⊢
        omega
      · exact o3
  refine ⟨?_, fun hn => ?_⟩
  · simp only [firmF]; rw [if_pos hck]
  · show (firmF (v.1, v.2.1, r, ())).1 = (firmF v).1
    refine vec_ext firm_len2 firm_len2 fun j hj => ?_
    obtain ⟨a1, i1, a2, a3⟩ := firm_min h hj
    obtain ⟨b1, i2, b2, b3⟩ := firm_min hck hj
    dsimp only at b1 b2 b3
    have c1 : (firmF v).1.getD j 0 ≤ (firmF (v.1, v.2.1, r, ())).1.getD j 0 := by
      have := a1 i2 b2
      rw [b3, hat]
      split
      · rename_i c2
        rw [c2.1, c2.2, ← hxe] at this; rw [c2.2]; omega
      · exact this
    have c2 : (firmF (v.1, v.2.1, r, ())).1.getD j 0 ≤ (firmF v).1.getD j 0 := by
      rw [a3]
      by_cases c3 : i1 = v.2.1.toNat ∧ j = v.2.1.toNat
      · obtain ⟨k, hk1, hk2⟩ : ∃ k : Nat, (k : Int) < v.1 ∧ k ≠ v.2.1.toNat := by
          by_cases hm : v.2.1 = 0
          · exact ⟨1, by omega, by omega⟩
          · exact ⟨0, by omega, by omega⟩
        have d1 := b1 k hk1
        rw [hat, if_neg (fun e => hk2 e.1)] at d1
        have d2 := (ho k j (by omega) hj).2.2
        rw [c3.1]
        omega
      · have d1 := b1 i1 a2
        rw [hat, if_neg c3] at d1
        exact d1
    omega
end Go.Proofs.Ytikbileeohddjaa.MatT
