/- Histories: what runs give: bounds, counts. -/
import Derived.Test.YtdahfpfkjljojaaHist2
open Go Go.Proofs.Ytdahfpfkjljojaa.Sy Go.Proofs.Ytdahfpfkjljojaa.Pu
set_option linter.unusedVariables false
set_option linter.unusedSimpArgs false
namespace Go.Proofs.Ytdahfpfkjljojaa.Vc

theorem lastOf_rel {α β : Type} {P : Nat → Bool} {v : Nat → α} {w : Nat → β} {z : α} {y : β} (R : α → β → Prop) : ∀ {k : Nat}, R z y → (∀ j, j < k → P j = true → R (v j) (w j)) → R (lastOf P v z k) (lastOf P w y k)
  | 0, h0, _ => h0
  | k + 1, h0, h => by
    simp only [lastOf]
    split
    · rename_i hp; exact h k (by omega) hp
    · exact lastOf_rel R h0 (fun j hj => h j (by omega))
theorem lastOf_prop {α : Type} {P : Nat → Bool} {v : Nat → α} {z : α} (R : α → Prop) {k : Nat} (h0 : R z) (h : ∀ j, j < k → P j = true → R (v j)) : R (lastOf P v z k) :=
  lastOf_rel (w := v) (y := z) (fun a _ => R a) h0 h
theorem inc_eq {x : Int} (h0 : -1000000 ≤ x) (h1 : x ≤ 1000000000) : inc1 x = x + 1 := add64 (by omega) (by omega)

/-! ### Stamps -/
abbrev StampRun (h : List EV) (s : List Int) : Prop := IsRun (z := (0 : Int)) (mx := mxI) (up := upI) h s
abbrev VectRun (h : List EV) (v : List (List Int)) : Prop := IsRun (z := z6) (mx := maxV) (up := upV) h v
theorem stamp_bound {h : List EV} {s : List Int} (hg : Good h) (hs : StampRun h s) : ∀ k, k < h.length → 1 ≤ s.getD k 0 ∧ s.getD k 0 ≤ k + 1 := by
  intro k
  induction k using Nat.strongRecOn with
  | _ k ih =>
    intro hk
    have hl := hg.len
    rw [hs.at_ k hk]
    have hw : 0 ≤ was (0 : Int) h (s.getD · 0) k ∧ was (0 : Int) h (s.getD · 0) k ≤ k := lastOf_prop (fun x => 0 ≤ x ∧ x ≤ (k : Int)) ⟨Int.le_refl _, by omega⟩ fun j hj _ => by have := ih j hj (by omega); omega
    have hn : 0 ≤ sentBy (0 : Int) h (s.getD · 0) k ∧ sentBy (0 : Int) h (s.getD · 0) k ≤ k := lastOf_prop (fun x => 0 ≤ x ∧ x ≤ (k : Int)) ⟨Int.le_refl _, by omega⟩ fun j hj _ => by have := ih j hj (by omega); omega
    simp only [given, upI]
    have hm := mxI_cases (was (0 : Int) h (s.getD · 0) k) (sentBy (0 : Int) h (s.getD · 0) k)
    split
    · rw [inc_eq (by omega) (by omega)]; omega
    · rw [inc_eq (by omega) (by omega)]; omega

/-! ### Vectors -/
def VOk (x : List Int) (b : Int) : Prop := x.length = 6 ∧ ∀ j, j < 6 → 0 ≤ x.getD j 0 ∧ x.getD j 0 ≤ b
theorem z6_ok {b : Int} (h : 0 ≤ b) : VOk z6 b := ⟨by simp, fun j hj => by rw [getD_rep]; omega⟩
theorem VOk.mono {x : List Int} {b c : Int} (h : VOk x b) (hbc : b ≤ c) : VOk x c := ⟨h.1, fun j hj => by have := h.2 j hj; omega⟩
theorem maxV_len {a b : List Int} : (maxV a b).length = a.length := vset_len _ _ _ _
theorem maxV_at {a b : List Int} (ha : a.length = 6) {j : Nat} (hj : j < 6) : (maxV a b).getD j 0 = mxI (a.getD j 0) (b.getD j 0) := by
  rw [vset_at mxI a b 6 (by omega) j, if_pos hj]
theorem maxV_ok {a b : List Int} {c : Int} (ha : VOk a c) (hb : VOk b c) : VOk (maxV a b) c :=
  ⟨maxV_len.trans ha.1, fun j hj => by
    rw [maxV_at ha.1 hj]
    have := mxI_cases (a.getD j 0) (b.getD j 0)
    have := ha.2 j hj
    have := hb.2 j hj
    omega⟩
theorem upV_at {p : Int} {x : List Int} (hx : x.length = 6) (h0 : 0 ≤ p) (h6 : p < 6) (j : Nat) : (upV p x).getD j 0 = if j = p.toNat then inc1 (x.getD j 0) else x.getD j 0 := by
  rw [getD_setD (by omega)]
  by_cases h : j = p.toNat
  · subst h; simp
  · rw [if_neg h, if_neg h]
theorem vect_bound {h : List EV} {v : List (List Int)} (hg : Good h) (hs : VectRun h v) : ∀ k, k < h.length → VOk (v.getD k z6) (k + 1) := by
  intro k
  induction k using Nat.strongRecOn with
  | _ k ih =>
    intro hk
    have hl := hg.len
    obtain ⟨g1, g2, _, _⟩ := hg.ev k hk
    rw [hs.at_ k hk]
    have hw : VOk (was z6 h (v.getD · z6) k) k := lastOf_prop (fun x => VOk x k) (z6_ok (by omega)) fun j hj _ => (ih j hj (by omega)).mono (by omega)
    have hn : VOk (sentBy z6 h (v.getD · z6) k) k := lastOf_prop (fun x => VOk x k) (z6_ok (by omega)) fun j hj _ => (ih j hj (by omega)).mono (by omega)
    have key : ∀ x, VOk x k → VOk (upV (evp h k) x) (k + 1) := by
      intro x hx
      refine ⟨by rw [List.length_set]; exact hx.1, fun j hj => ?_⟩
      rw [upV_at hx.1 g1 g2]
      have := hx.2 j hj
      split
      · rw [inc_eq (by omega) (by omega)]; omega
      · omega
    simp only [given]
    split
    · exact key _ (maxV_ok hw hn)
    · exact key _ hw
theorem was_ok {h : List EV} {v : List (List Int)} (hg : Good h) (hs : VectRun h v) {k : Nat} (hk : k < h.length) : VOk (was z6 h (v.getD · z6) k) k :=
  lastOf_prop (fun x => VOk x k) (z6_ok (by omega)) fun j hj _ => (vect_bound hg hs j (by omega)).mono (by omega)
theorem sent_ok {h : List EV} {v : List (List Int)} (hg : Good h) (hs : VectRun h v) {k : Nat} (hk : k < h.length) : VOk (sentBy z6 h (v.getD · z6) k) k :=
  lastOf_prop (fun x => VOk x k) (z6_ok (by omega)) fun j hj _ => (vect_bound hg hs j (by omega)).mono (by omega)
theorem maxV_z6 {a : List Int} {c : Int} (ha : VOk a c) : maxV a z6 = a := by
  refine ext_getD 0 maxV_len fun j hj => ?_
  have hj6 : j < 6 := by rw [maxV_len, ha.1] at hj; exact hj
  rw [maxV_at ha.1 hj6, getD_rep]
  have := ha.2 j hj6
  have := mxI_cases (a.getD j 0) 0
  omega
/-- What an event's vector is, at each place. -/
theorem vect_at {h : List EV} {v : List (List Int)} (hg : Good h) (hs : VectRun h v) {k : Nat} (hk : k < h.length) {j : Nat} (hj : j < 6) :
    (v.getD k z6).getD j 0 = (if (evk h k == (3 : Int)) = true then mxI ((was z6 h (v.getD · z6) k).getD j 0) ((sentBy z6 h (v.getD · z6) k).getD j 0) else (was z6 h (v.getD · z6) k).getD j 0) + if j = (evp h k).toNat then 1 else 0 := by
  obtain ⟨g1, g2, _, _⟩ := hg.ev k hk
  have hl := hg.len
  have hw := was_ok hg hs hk
  have hn := sent_ok hg hs hk
  rw [hs.at_ k hk]
  simp only [given]
  have b1 := hw.2 j hj
  have b2 := hn.2 j hj
  have b3 := mxI_cases ((was z6 h (v.getD · z6) k).getD j 0) ((sentBy z6 h (v.getD · z6) k).getD j 0)
  rcases bdich (evk h k == (3 : Int)) with h3 | h3
  · rw [if_true' h3, if_true' h3, upV_at (maxV_len.trans hw.1) g1 g2, maxV_at hw.1 hj]
    split
    · rw [inc_eq (by omega) (by omega)]
    · omega
  · rw [if_false' h3, if_false' h3, upV_at hw.1 g1 g2]
    split
    · rw [inc_eq (by omega) (by omega)]
    · omega
/-- How many events of a process are among the first k. -/
def cnt (h : List EV) (p : Int) : Nat → Int
  | 0 => 0
  | k + 1 => cnt h p k + if evp h k = p then 1 else 0
theorem cnt_mono {h : List EV} {p : Int} {i k : Nat} (hik : i ≤ k) : cnt h p i ≤ cnt h p k := by
  induction hik with
  | refl => exact Int.le_refl _
  | step _ ih => simp only [cnt]; split <;> omega
theorem cnt_nonneg {h : List EV} {p : Int} {k : Nat} : 0 ≤ cnt h p k := by have := cnt_mono (h := h) (p := p) (Nat.zero_le k); simpa [cnt] using this
theorem cnt_le {h : List EV} {p : Int} : ∀ k, cnt h p k ≤ k
  | 0 => by simp [cnt]
  | k + 1 => by
    have := cnt_le (h := h) (p := p) k
    simp only [cnt]; split <;> omega
theorem cnt_same {h : List EV} {p : Int} {i : Nat} : ∀ {k : Nat}, i ≤ k → (∀ j, i ≤ j → j < k → evp h j ≠ p) → cnt h p k = cnt h p i
  | 0, hik, _ => by have : i = 0 := by omega
                    rw [this]
  | k + 1, hik, hn => by
    by_cases e : i = k + 1
    · rw [e]
    · simp only [cnt]
      rw [if_neg (hn k (by omega) (by omega)), cnt_same (by omega) (fun j h1 h2 => hn j h1 (by omega))]
      omega
theorem was_count {h : List EV} {v : List (List Int)} {k : Nat} (hv : ∀ j, j < k → ∀ q : Int, 0 ≤ q → q < 6 → (v.getD j z6).getD q.toNat 0 ≤ cnt h q (j + 1)) (hown : ∀ j, j < k → (v.getD j z6).getD (evp h j).toNat 0 = cnt h (evp h j) (j + 1)) :
    (∀ q : Int, 0 ≤ q → q < 6 → (was z6 h (v.getD · z6) k).getD q.toNat 0 ≤ cnt h q k) ∧ (was z6 h (v.getD · z6) k).getD (evp h k).toNat 0 = cnt h (evp h k) k ∧ ∀ q : Int, 0 ≤ q → q < 6 → (sentBy z6 h (v.getD · z6) k).getD q.toNat 0 ≤ cnt h q k := by
  refine ⟨fun q q0 q6 => ?_, ?_, fun q q0 q6 => ?_⟩
  · exact lastOf_prop (fun x : List Int => x.getD q.toNat 0 ≤ cnt h q k) (by rw [getD_rep]; exact cnt_nonneg) fun j hj _ => Int.le_trans (hv j hj q q0 q6) (cnt_mono (by omega))
  · unfold was
    rcases lastOf_cases (fun j => evp h j == evp h k) (v.getD · z6) z6 k with ⟨h1, h2⟩ | ⟨j, h1, h2, h3, h4⟩
    · rw [h1, getD_rep]
      have := cnt_same (h := h) (p := evp h k) (i := 0) (k := k) (by omega) (fun j _ hj => by simpa using h2 j hj)
      rw [this]; rfl
    · rw [h3]
      have e : evp h j = evp h k := by simpa using h2
      rw [← e, hown j h1, e]
      exact (cnt_same (by omega) (fun i hi1 hi2 => by simpa using h4 i (by omega) hi2)).symm
  · exact lastOf_prop (fun x : List Int => x.getD q.toNat 0 ≤ cnt h q k) (by rw [getD_rep]; exact cnt_nonneg) fun j hj _ => Int.le_trans (hv j hj q q0 q6) (cnt_mono (by omega))
theorem vect_count {h : List EV} {v : List (List Int)} (hg : Good h) (hs : VectRun h v) : ∀ k, k < h.length → (∀ q : Int, 0 ≤ q → q < 6 → (v.getD k z6).getD q.toNat 0 ≤ cnt h q (k + 1)) ∧ (v.getD k z6).getD (evp h k).toNat 0 = cnt h (evp h k) (k + 1) := by
  intro k
  induction k using Nat.strongRecOn with
  | _ k ih =>
    intro hk
    obtain ⟨g1, g2, _, _⟩ := hg.ev k hk
    obtain ⟨w1, w2, w3⟩ := was_count (h := h) (v := v) (k := k) (fun j hj => (ih j hj (by omega)).1) (fun j hj => (ih j hj (by omega)).2)
    have hb := sent_ok hg hs hk
    refine ⟨fun q q0 q6 => ?_, ?_⟩
    · rw [vect_at hg hs hk (by omega)]
      have a1 := w1 q q0 q6
      have a3 := w3 q q0 q6
      have m := mxI_cases ((was z6 h (v.getD · z6) k).getD q.toNat 0) ((sentBy z6 h (v.getD · z6) k).getD q.toNat 0)
      have e : (q.toNat = (evp h k).toNat) ↔ evp h k = q := by omega
      simp only [cnt, e]
      split <;> split <;> omega
    · rw [vect_at hg hs hk (by omega)]
      have a3 := w3 (evp h k) g1 g2
      have m := mxI_cases ((was z6 h (v.getD · z6) k).getD (evp h k).toNat 0) ((sentBy z6 h (v.getD · z6) k).getD (evp h k).toNat 0)
      simp only [cnt, if_true]
      split <;> omega

/-! ### The library's Equal, Contains; Rest -/
theorem equalI_eq (a b : List Int) (ha : a.length < 1000000000) : slices_Equal_Lint_int a b = some (decide (a = b)) := by
  simp only [slices_Equal_Lint_int, letO_def]
  by_cases hl : a.length = b.length
  · rw [if_false' (by simp [hl])]
    have hst : ∀ k : Nat, k < a.length → slices_Equal_Lint_int_L1 a b (a.length : Int) (k : Int) = if a.getD k 0 = b.getD k 0 then some (.inl ((k + 1 : Nat) : Int)) else some (.inr (.inr false)) := by
      intro k hk
      unfold slices_Equal_Lint_int_L1
      rw [if_true' (dec_t (by omega)), ck_in (by omega), ck_in (by omega), inc64 (by omega), Int.toNat_natCast]
      by_cases e : a.getD k 0 = b.getD k 0
      · rw [if_pos e, if_false' (by simpa using e)]
      · rw [if_neg e, if_true' (by simpa using e)]
    by_cases e : a = b
    · refine (bindE_inl (y := ()) (loop_from (fun k => (k : Int)) a.length rfl (fun k hk => ?_) ?_)).trans (by rw [dec_t e])
      · rw [hst k hk, if_pos (by rw [e])]
      · unfold slices_Equal_Lint_int_L1
        rw [if_false' (dec_f (by omega))]
    · obtain ⟨z, h1, h2⟩ := loop_countE (B := fun x : Int => slices_Equal_Lint_int_L1 a b (a.length : Int) x) (fun k x => x = (k : Int) ∧ ∃ j, k ≤ j ∧ j < a.length ∧ a.getD j 0 ≠ b.getD j 0) a.length (fun z => z = .inr false) (x := (0 : Int)) ⟨rfl, by
          refine Classical.byContradiction fun hn => e (ext_getD 0 hl fun j hj => ?_)
          exact Classical.byContradiction fun hne => hn ⟨j, by omega, hj, hne⟩⟩ (by
          rintro k x hk ⟨rfl, j, j1, j2, j3⟩
          rw [hst k hk]
          by_cases ek : a.getD k 0 = b.getD k 0
          · rw [if_pos ek]
            refine .inl ⟨_, rfl, rfl, j, ?_, j2, j3⟩
            by_cases ejk : j = k
            · subst ejk; exact absurd ek j3
            · omega
          · rw [if_neg ek]
            exact .inr ⟨_, rfl, rfl⟩) (by
          rintro x ⟨rfl, j, j1, j2, j3⟩
          omega)
      subst h2
      exact (bindE_inr h1).trans (by rw [dec_f e])
  · rw [if_true' (by simpa using fun h => hl (by exact_mod_cast h)), dec_f (fun h => hl (by rw [h]))]
theorem equalV_eq (a b : List (List Int)) (ha : a.length < 1000000000) : slices_Equal_LVector_Vector a b = some (decide (a = b)) := by
  simp only [slices_Equal_LVector_Vector, letO_def]
  by_cases hl : a.length = b.length
  · rw [if_false' (by simp [hl])]
    have hst : ∀ k : Nat, k < a.length → slices_Equal_LVector_Vector_L1 a b (a.length : Int) (k : Int) = if a.getD k z6 = b.getD k z6 then some (.inl ((k + 1 : Nat) : Int)) else some (.inr (.inr false)) := by
      intro k hk
      unfold slices_Equal_LVector_Vector_L1
      rw [if_true' (dec_t (by omega)), ck_in (by omega), ck_in (by omega), inc64 (by omega), Int.toNat_natCast]
      by_cases e : a.getD k z6 = b.getD k z6
      · rw [if_pos e, if_false' (by rw [(eqA6I_iff _ _).2 e]; rfl)]
      · rw [if_neg e, if_true' (by rw [Bool.eq_false_iff.2 (fun h => e ((eqA6I_iff _ _).1 h))]; rfl)]
    by_cases e : a = b
    · refine (bindE_inl (y := ()) (loop_from (fun k => (k : Int)) a.length rfl (fun k hk => ?_) ?_)).trans (by rw [dec_t e])
      · rw [hst k hk, if_pos (by rw [e])]
      · unfold slices_Equal_LVector_Vector_L1
        rw [if_false' (dec_f (by omega))]
    · obtain ⟨z, h1, h2⟩ := loop_countE (B := fun x : Int => slices_Equal_LVector_Vector_L1 a b (a.length : Int) x) (fun k x => x = (k : Int) ∧ ∃ j, k ≤ j ∧ j < a.length ∧ a.getD j z6 ≠ b.getD j z6) a.length (fun z => z = .inr false) (x := (0 : Int)) ⟨rfl, by
          refine Classical.byContradiction fun hn => e (ext_getD z6 hl fun j hj => ?_)
          exact Classical.byContradiction fun hne => hn ⟨j, by omega, hj, hne⟩⟩ (by
          rintro k x hk ⟨rfl, j, j1, j2, j3⟩
          rw [hst k hk]
          by_cases ek : a.getD k z6 = b.getD k z6
          · rw [if_pos ek]
            refine .inl ⟨_, rfl, rfl, j, ?_, j2, j3⟩
            by_cases ejk : j = k
            · subst ejk; exact absurd ek j3
            · omega
          · rw [if_neg ek]
            exact .inr ⟨_, rfl, rfl⟩) (by
          rintro x ⟨rfl, j, j1, j2, j3⟩
          omega)
      subst h2
      exact (bindE_inr h1).trans (by rw [dec_f e])
  · rw [if_true' (by simpa using fun h => hl (by exact_mod_cast h)), dec_f (fun h => hl (by rw [h]))]
theorem tmod_rest (a n : Int) (hn : 0 < n) : (a.tmod n + n).tmod n = a % n := by
  have h1 := Int.tmod_lt_of_pos a hn
  have h2 : -n < a.tmod n := by
    have := Int.lt_tmod_of_pos a hn
    exact this
  rw [Int.tmod_eq_emod_of_nonneg (by omega), Int.add_emod_right]
  rw [Int.tmod_def]
  rw [Int.sub_emod, Int.mul_emod_right]
  simp
theorem rest_eq (a n : Int) (hn : 0 < n) (hb : n < 1000000000000) : R_Rest a n = some (a % n) := by
  unfold R_Rest
  rw [if_false' (dec_f (by omega)), ck_in (by omega), ck_in (by omega)]
  have h1 := Int.tmod_lt_of_pos a hn
  have h2 := Int.lt_tmod_of_pos a hn
  rw [rem64, rem64, add64 (by omega) (by omega), tmod_rest a n hn]
theorem cont_eq (l : List (Int × Int × Unit)) (x : Int × Int × Unit) (hl : l.length < 1000000000) : slices_Contains_LPair_Pair l x = some (decide (x ∈ l)) := by
  unfold slices_Contains_LPair_Pair
  have hst : ∀ k : Nat, k < l.length → slices_Index_LPair_Pair_L1 l x (l.length : Int) (k : Int) = if x = l.getD k ((0 : Int), (0 : Int), ()) then some (.inr (.inr (k : Int))) else some (.inl ((k + 1 : Nat) : Int)) := by
    intro k hk
    unfold slices_Index_LPair_Pair_L1
    rw [if_true' (dec_t (by omega)), ck_in (by omega), inc64 (by omega), Int.toNat_natCast]
    by_cases e : x = l.getD k ((0 : Int), (0 : Int), ())
    · rw [if_pos e, if_true' ((eqTIIE_iff _ _).2 e)]
    · rw [if_neg e, if_false' (Bool.eq_false_iff.2 (fun h => e ((eqTIIE_iff _ _).1 h)))]
  by_cases hm : x ∈ l
  · obtain ⟨i, hi, he⟩ := (mem_getD (d := ((0 : Int), (0 : Int), ()))).1 hm
    have : ∃ z, slices_Index_LPair_Pair l x = some z ∧ 0 ≤ z := by
      simp only [slices_Index_LPair_Pair, letO_def]
      obtain ⟨z, h1, h2⟩ := loop_countE (B := fun y : Int => slices_Index_LPair_Pair_L1 l x (l.length : Int) y) (fun k y => y = (k : Int) ∧ ∃ j, k ≤ j ∧ j < l.length ∧ x = l.getD j ((0 : Int), (0 : Int), ())) l.length (fun z => ∃ w : Int, z = .inr w ∧ 0 ≤ w) (x := (0 : Int)) ⟨rfl, i, by omega, hi, he.symm⟩ (by
          rintro k y hk ⟨rfl, j, j1, j2, j3⟩
          rw [hst k hk]
          by_cases ek : x = l.getD k ((0 : Int), (0 : Int), ())
          · rw [if_pos ek]
            exact .inr ⟨_, rfl, _, rfl, by omega⟩
          · rw [if_neg ek]
            refine .inl ⟨_, rfl, rfl, j, ?_, j2, j3⟩
            by_cases ejk : j = k
            · subst ejk; exact absurd j3 ek
            · omega) (by
          rintro y ⟨rfl, j, j1, j2, j3⟩
          omega)
      obtain ⟨w, rfl, hw⟩ := h2
      exact ⟨w, bindE_inr h1, hw⟩
    obtain ⟨z, h1, h2⟩ := this
    rw [bind_of h1, dec_t hm]
    simp [h2]
  · have : slices_Index_LPair_Pair l x = some (-1) := by
      simp only [slices_Index_LPair_Pair, letO_def]
      refine (bindE_inl (y := ()) (loop_from (fun k => (k : Int)) l.length rfl (fun k hk => ?_) ?_))
      · rw [hst k hk, if_neg (fun e => hm (by rw [e, getD_lt hk]; exact List.getElem_mem hk))]
      · unfold slices_Index_LPair_Pair_L1
        rw [if_false' (dec_f (by omega))]
    rw [bind_of this, dec_f hm]
    rfl
end Go.Proofs.Ytdahfpfkjljojaa.Vc
