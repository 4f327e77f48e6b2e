/- The laws StampBound, StampFront. -/
import Derived.Test.YtdahfpfkjljojaaHist4
open Go Go.Proofs.Ytdahfpfkjljojaa.Sy Go.Proofs.Ytdahfpfkjljojaa.Pu
set_option linter.unusedVariables false
set_option linter.unusedSimpArgs false
namespace Go.Proofs.Ytdahfpfkjljojaa.Vc

/-! ### Local events of one process -/
abbrev loc1 : EV := ((0 : Int), (1 : Int), (0 : Int), ())
theorem loc_chk : ∀ (n : Nat) (s : List Int) (g : List (List Bool)), chkL (List.replicate n loc1) s g = 0
  | 0, _, _ => rfl
  | n + 1, s, g => by
    rw [List.replicate_succ]
    simp only [chkL]
    rw [if_false' (by decide), if_true' (by decide), if_false' (by decide)]
    exact loc_chk n s g
theorem loc_chkF {n : Nat} (hn : n ≤ 60) : chkF (List.replicate n loc1) = 0 := by
  simp only [chkF]
  rw [if_false' (dec_f (by simp; omega))]
  exact loc_chk n _ _
theorem loc_stamp {n : Nat} {s : List Int} (hn : n ≤ 60) (hs : StampRun (List.replicate n loc1) s) : ∀ k, k < n → s.getD k 0 = k + 1 := by
  intro k
  induction k with
  | zero =>
    intro hk
    rw [hs.at_ 0 (by simpa using hk)]
    have : evk (List.replicate n loc1) 0 = 1 := by rw [evk, getD_rep' hk]
    simp only [given, this]
    rw [if_false' (by decide)]
    simp only [was, lastOf]
    show inc1 0 = _
    decide
  | succ k ih =>
    intro hk
    rw [hs.at_ (k + 1) (by simpa using hk)]
    have e1 : evk (List.replicate n loc1) (k + 1) = 1 := by rw [evk, getD_rep' hk]
    have e2 : evp (List.replicate n loc1) (k + 1) = 0 := by rw [evp, getD_rep' hk]
    have e3 : evp (List.replicate n loc1) k = 0 := by rw [evp, getD_rep' (by omega)]
    simp only [given, e1]
    rw [if_false' (by decide)]
    simp only [was, lastOf]
    rw [if_true' (by rw [e2, e3]; decide), ih (by omega)]
    show inc1 _ = _
    rw [inc_eq (by omega) (by omega)]
    omega
theorem bound_law (h : List EV) (n : Int) : StampBound h n = some true := by
  unfold StampBound
  have e0 : stampsF [((0 : Int), (1 : Int), (0 : Int), ()), ((0 : Int), (1 : Int), (0 : Int), ())] = ([1, 2], 0) := by decide +kernel
  rw [bind_of (stamps_eq _), e0, equalI_eq _ _ (by decide), letO_def, ck_in (fun _ => by rfl), if_false' (by decide), bind_of (stamps_eq h), letO_def]
  -- the bound
  have h1 : loopO (fun x : Int => StampBound_L1 (stampsF h) ((stampsF h).1.length : Int) x) (0 : Int) = some (.inl ()) := by
    refine loop_from (fun k => (k : Int)) (stampsF h).1.length rfl (fun k hk => ?_) ?_
    · by_cases hc : chkF h = 0
      · obtain ⟨e1, hg, hs⟩ := stampsF_ok hc
        rw [e1] at hk ⊢
        dsimp only at hk ⊢
        generalize stampsO h = s at hk hs
        have hsl : s.length = h.length := hs.len
        have hl := hg.len
        have hb := stamp_bound hg hs k (by omega)
        unfold StampBound_L1
        dsimp only
        rw [if_true' (dec_t (by omega)), ck_in (by omega), letO_def, Int.toNat_natCast, inc64 (by omega), if_false' ?_]
        rw [Bool.or_eq_false_iff]
        exact ⟨dec_f (by omega), dec_f (by omega)⟩
      · rw [stampsF_no hc] at hk
        simp at hk
    · unfold StampBound_L1
      rw [if_false' (dec_f (by omega))]
  rw [bindE_inl h1, bind_of (rest_eq n 61 (by decide) (by decide))]
  have hm := Int.emod_nonneg n (show (61 : Int) ≠ 0 by decide)
  have hm2 := Int.emod_lt_of_pos n (show (0 : Int) < 61 by decide)
  obtain ⟨m, hmn⟩ : ∃ m : Nat, n % 61 = (m : Int) := ⟨(n % 61).toNat, by omega⟩
  rw [hmn, ck_in (by omega), ck_in (le_maxL (by omega)), letO_def, letO_def, Int.toNat_natCast]
  have hm60 : m ≤ 60 := by omega
  simp only [List.length_replicate]
  obtain ⟨z, hz1, hz2⟩ := loop_count (B := fun x : List EV × Int => StampBound_L2 (m : Int) x.1 x.2) (fun k x => x.2 = (k : Int) ∧ x.1.length = m ∧ ∀ j, j < m → x.1.getD j dE = if j < k then loc1 else dE) m (fun z => z = List.replicate m loc1) (x := (List.replicate m dE, (0 : Int))) ⟨rfl, by simp, fun j hj => by rw [getD_rep' hj]; rfl⟩ (by
      rintro k ⟨l, i⟩ hk ⟨e1, e2, e3⟩
      dsimp only at e1 e2 e3
      subst e1
      unfold StampBound_L2
      dsimp only
      rw [if_true' (dec_t (by omega)), ck_in (by omega), letO_def, inc64 (by omega), Int.toNat_natCast]
      refine ⟨_, rfl, rfl, by simpa using e2, fun j hj => ?_⟩
      dsimp only
      rw [getD_setD (by omega), e3 k hk, if_neg (Nat.lt_irrefl k), e3 j hj]
      by_cases h : j = k
      · subst h; rw [if_pos rfl, if_pos (by omega)]
      · rw [if_neg h]
        by_cases h2 : j < k
        · rw [if_pos h2, if_pos (by omega)]
        · rw [if_neg h2, if_neg (by omega)]) (by
      rintro ⟨l, i⟩ ⟨e1, e2, e3⟩
      dsimp only at e1 e2 e3
      subst e1
      unfold StampBound_L2
      dsimp only
      rw [if_false' (dec_f (by omega))]
      refine ⟨_, rfl, ext_getD dE (by simp [e2]) fun j hj => ?_⟩
      rw [e3 j (by omega), if_pos (by omega), getD_rep' (by omega)])
  subst hz2
  rw [bind_of hz1, bind_of (stamps_eq _)]
  obtain ⟨e1, hg, hs⟩ := stampsF_ok (loc_chkF hm60)
  rw [e1]
  generalize stampsO (List.replicate m loc1) = s at hs
  have hsl : s.length = m := by rw [hs.len]; simp
  rw [letO_def]
  have h2 : loopO (fun x : Int => StampBound_L3 (s, (0 : Int)) (s.length : Int) x) (0 : Int) = some (.inl ()) := by
    refine loop_from (fun k => (k : Int)) s.length rfl (fun k hk => ?_) ?_
    · have hb := loc_stamp hm60 hs k (by omega)
      unfold StampBound_L3
      dsimp only
      rw [if_true' (dec_t (by omega)), ck_in (by omega), letO_def, Int.toNat_natCast, inc64 (by omega), hb, if_false' ?_]
      simp
    · unfold StampBound_L3
      rw [if_false' (dec_f (by omega))]
  rw [bindE_inl h2]
  simp only [hsl, List.length_replicate]
  by_cases hc : chkF h = 0
  · obtain ⟨e2, hg2, hs2⟩ := stampsF_ok hc
    rw [e2]
    simp [hs2.len]
  · rw [stampsF_no hc]
    simp [hc]

/-! ### What comes later changes nothing -/
theorem chkL_front : ∀ (l r : List EV) (s : List Int) (g : List (List Bool)), chkL (l ++ r) s g = 0 → chkL l s g = 0
  | [], _, _, _, _ => rfl
  | e :: l, r, s, g, h => by
    simp only [List.cons_append, chkL] at h ⊢
    split at h
    · exact absurd h (by decide)
    rename_i c; rw [if_neg c]
    split at h
    · rename_i c; rw [if_pos c]
      split at h
      · exact absurd h (by decide)
      · rename_i c; rw [if_neg c]; exact chkL_front l r _ _ h
    rename_i c; rw [if_neg c]
    split at h
    · rename_i c; rw [if_pos c]
      split at h
      · exact absurd h (by decide)
      · rename_i c; rw [if_neg c]; exact chkL_front l r _ _ h
    rename_i c; rw [if_neg c]
    split at h
    · rename_i c; rw [if_pos c]
      split at h
      · exact absurd h (by decide)
      · rename_i c; rw [if_neg c]; exact chkL_front l r _ _ h
    · exact absurd h (by decide)
theorem chkF_front {h : List EV} (hc : chkF h = 0) (n : Nat) : chkF (h.take n) = 0 := by
  have hl := (good_of hc).len
  simp only [chkF] at hc ⊢
  rw [if_false' (dec_f (by omega))] at hc
  rw [if_false' (dec_f (by simp only [List.length_take]; omega))]
  exact chkL_front (h.take n) (h.drop n) _ _ (by rw [List.take_append_drop]; exact hc)
theorem gout_front {α : Type} {z : α} {mx : α → α → α} {up : Int → α → α} {h : List EV} (hg : Good h) {n : Nat} (hn : n ≤ h.length) : gout z mx up (h.take n) = (gout z mx up h).take n := by
  have key : ∀ m, n + m ≤ h.length → (grun z mx up h (n + m)).2.2.take n = (grun z mx up h n).2.2 := by
    intro m
    induction m with
    | zero =>
      intro hm
      rw [Nat.add_zero]
      exact List.take_of_length_le (by rw [(runI (z := z) (mx := mx) (up := up) h hg n hn).l3]; exact Nat.le_refl n)
    | succ m ih =>
      intro hm
      rw [← ih (by omega), ← Nat.add_assoc, grun_succ z mx up h (n + m) (by omega)]
      have hl := (runI (z := z) (mx := mx) (up := up) h hg (n + m) (by omega)).l3
      simp only [gstep]
      rw [List.take_append_of_le_length (by omega)]
  have := key (h.length - n) (by omega)
  rw [show n + (h.length - n) = h.length by omega] at this
  unfold gout
  rw [this]
  have hl : (h.take n).length = n := by simp; omega
  rw [hl]
  unfold grun
  rw [List.take_take, Nat.min_self]
theorem front_law (h : List EV) (k : Int) : StampFront h k = some true := by
  unfold StampFront
  have e0 : stampsF [((0 : Int), (1 : Int), (0 : Int), ())] = ([1], 0) := by decide +kernel
  rw [bind_of (stamps_eq _), e0, equalI_eq _ _ (by decide), letO_def, ck_in (fun _ => by rfl), if_false' (by decide), bind_of (stamps_eq h), bind_of (vectors_eq h)]
  by_cases hc : chkF h = 0
  · obtain ⟨e1, hg, hs⟩ := stampsF_ok hc
    obtain ⟨e2, _, hv⟩ := vectorsF_ok hc
    have hl := hg.len
    rw [e1, e2, if_false' (by rfl)]
    rw [add64 (by omega) (by omega), bind_of (rest_eq k ((h.length : Int) + 1) (by omega) (by omega))]
    have hm := Int.emod_nonneg k (show (h.length : Int) + 1 ≠ 0 by omega)
    have hm2 := Int.emod_lt_of_pos k (show (0 : Int) < (h.length : Int) + 1 by omega)
    obtain ⟨n, hn⟩ : ∃ n : Nat, k % ((h.length : Int) + 1) = (n : Int) := ⟨(k % ((h.length : Int) + 1)).toNat, by omega⟩
    rw [hn]
    have hnl : n ≤ h.length := by omega
    obtain ⟨f1, _, _⟩ := stampsF_ok (chkF_front hc n)
    obtain ⟨f2, _, _⟩ := vectorsF_ok (chkF_front hc n)
    have hsl : (stampsO h).length = h.length := hs.len
    have hvl : (vectorsO h).length = h.length := hv.len
    rw [ck_in (by omega), Int.toNat_natCast, List.drop_zero, bind_of (stamps_eq _), ck_in (by omega), bind_of (vectors_eq _), f1, f2, ck_in (fun _ => by dsimp only; omega)]
    dsimp only
    rw [show stampsO (h.take n) = (stampsO h).take n from gout_front hg hnl, show vectorsO (h.take n) = (vectorsO h).take n from gout_front hg hnl, List.drop_zero, List.drop_zero, equalI_eq _ _ (by simp; omega), equalV_eq _ _ (by simp; omega), letO_def, ck_in (fun _ => by rfl), ck_in (fun _ => by omega), letO_def, ck_in (fun _ => by rfl)]
    simp
  · rw [stampsF_no hc, vectorsF_no hc, if_true' (by simpa using hc)]
    simp
end Go.Proofs.Ytdahfpfkjljojaa.Vc
