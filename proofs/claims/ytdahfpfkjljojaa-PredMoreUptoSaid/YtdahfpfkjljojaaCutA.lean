/- Cuts: the story of a history; what Grow and Shrink return. -/
import Derived.Test.YtdahfpfkjljojaaHist7
import Derived.Test.YtdahfpfkjljojaaSum1
import Derived.Test.YtdahfpfkjljojaaCtDefs
open Go Go.Proofs.Ytdahfpfkjljojaa.Sy Go.Proofs.Ytdahfpfkjljojaa.Pu
set_option linter.unusedVariables false
set_option linter.unusedSimpArgs false
namespace Go.Proofs.Ytdahfpfkjljojaa.Ct
open Go.Proofs.Ytdahfpfkjljojaa.Vc (EV dE z6 evp evk evm VectRun cnt cntV chkF withinF maxV minV)
theorem chk_eq (h : List EV) : stamp_Check h = some (chkF h) := Vc.check_eq h
theorem vec_eq (h : List EV) : vect_Vectors h = some (Vc.vectorsF h) := Vc.vectors_eq h
theorem max_eq (a b : List Int) : vect_Max a b = some (maxV a b) := Vc.max_eq a b
theorem min_eq (a b : List Int) : vect_Min a b = some (minV a b) := Vc.min_eq a b
theorem within_eq (a b : List Int) : vect_Within a b = some (withinF a b) := Vc.within_eq a b
theorem rest_eq (a n : Int) (hn : 0 < n) (hb : n < 1000000000000) : R_Rest a n = some (a % n) := Vc.rest_eq a n hn hb
theorem cnt_succ (h : List EV) (p : Int) (k : Nat) : cnt h p (k + 1) = cnt h p k + if evp h k = p then 1 else 0 := rfl
theorem cntV_len (h : List EV) (k : Nat) : (cntV h k).length = 6 := by simp [cntV]
theorem set_cnt {h : List EV} (hg : Vc.Good h) {k : Nat} (hk : k < h.length) : (cntV h k).set (evp h k).toNat (arR .add .i64 ((cntV h k).getD (evp h k).toNat 0) 1) = cntV h (k + 1) := by
  obtain ⟨e1, e2, _, _⟩ := hg.ev k hk
  have hl := hg.len
  refine ext_getD 0 (by simp [cntV]) fun j hj => ?_
  have hj6 : j < 6 := by simpa [cntV_len] using hj
  have h0 : 0 ≤ cnt h (j : Int) k := Vc.cnt_nonneg
  have h1 : cnt h (j : Int) k ≤ k := Vc.cnt_le k
  rw [getD_setD (by rw [cntV_len]; omega), Vc.cntV_at hj6, Vc.cntV_at (show (evp h k).toNat < 6 by omega), Vc.cntV_at hj6, cnt_succ]
  by_cases e : j = (evp h k).toNat
  · subst e
    have e3 : (((evp h k).toNat : Nat) : Int) = evp h k := by omega
    rw [if_pos rfl, e3, if_pos rfl, add64 (by rw [e3] at h0 h1; omega) (by rw [e3] at h0 h1; omega)]
  · rw [if_neg e, if_neg (fun h => e (by omega))]
    omega
theorem sizes_eq {h : List EV} (hg : Vc.Good h) : cut_sizes h = some (cntV h h.length) := by
  have hl := hg.len
  unfold cut_sizes
  rw [letO_def, letO_def, letO_def]
  refine bind_of (loop_from (fun k => (cntV h k, (k : Int))) h.length rfl (fun k hk => ?_) ?_)
  · obtain ⟨e1, e2, _, _⟩ := hg.ev k hk
    unfold cut_sizes_L1
    dsimp only
    rw [if_true' (dec_t (by omega)), ck_in (by omega), letO_def, Int.toNat_natCast, show (h.getD k ((0 : Int), (0 : Int), (0 : Int), ())).1 = evp h k from rfl, ck_in ⟨e1, e2⟩, ck_in ⟨e1, e2⟩, letO_def, inc64 (by omega), set_cnt hg hk]
  · unfold cut_sizes_L1
    dsimp only
    rw [if_false' (dec_f (by omega))]
theorem rsizes_eq {h : List EV} (hg : Vc.Good h) : R_Sizes h = some (cntV h h.length) := sizes_eq hg
/-! ### The story -/
structure St (h : List EV) (v : List (List Int)) (k : Nat) (st : List (List (List Int))) : Prop where
  len : st.length = 6
  ln : ∀ p : Nat, p < 6 → ((st.getD p []).length : Int) = cnt h (p : Int) k
  at_ : ∀ i, i < k → (st.getD (evp h i).toNat []).getD (cnt h (evp h i) i).toNat z6 = v.getD i z6
theorem story_ok {h : List EV} (hc : chkF h = 0) : ∃ v st, cut_story h = some st ∧ Vc.vectorsF h = (v, 0) ∧ VectRun h v ∧ St h v h.length st := by
  obtain ⟨e1, hg, hv⟩ := Vc.vectorsF_ok hc
  have hl := hg.len
  generalize Vc.vectorsO h = v at e1 hv
  have hvl : v.length = h.length := hv.len
  obtain ⟨st, s1, s2⟩ := loop_count (B := fun x : List (List (List Int)) × Int => cut_story_L1 h (v, (0 : Int)) (h.length : Int) x.1 x.2) (fun k x => x.2 = (k : Int) ∧ St h v k x.1) h.length (fun st => St h v h.length st) (x := (List.replicate 6 ([] : List (List Int)), (0 : Int))) ⟨rfl, by simp, fun p hp => by rw [getD_rep]; rfl, fun i hi => by omega⟩ (by
    rintro k ⟨st, kk⟩ hk ⟨e2, hs⟩
    dsimp only at e2 hs
    subst e2
    obtain ⟨p0, p6, _, _⟩ := hg.ev k hk
    have hln := hs.ln (evp h k).toNat (by omega)
    have e3 : (((evp h k).toNat : Nat) : Int) = evp h k := by omega
    rw [e3] at hln
    have hcl : cnt h (evp h k) k ≤ k := Vc.cnt_le k
    have hsl := hs.len
    unfold cut_story_L1
    dsimp only
    rw [if_true' (dec_t (by omega)), ck_in (by omega), letO_def, Int.toNat_natCast, show (h.getD k ((0 : Int), (0 : Int), (0 : Int), ())).1 = evp h k from rfl, ck_in ⟨p0, p6⟩, ck_in (by omega), ck_in (le_maxL (by rw [hln]; simp; omega)), ck_in ⟨p0, p6⟩, letO_def, inc64 (by omega)]
    refine ⟨_, rfl, rfl, ⟨by simpa using hsl, fun p hp => ?_, fun i hi => ?_⟩⟩
    · dsimp only
      rw [getD_setD (by rw [hsl]; omega), cnt_succ]
      by_cases e : p = (evp h k).toNat
      · rw [if_pos e, if_pos (by omega), List.length_append]
        have := hs.ln p hp
        rw [← e]
        show (((st.getD p []).length + 1 : Nat) : Int) = _
        omega
      · rw [if_neg e, if_neg (fun h => e (by omega)), hs.ln p hp]
        omega
    · dsimp only
      rw [getD_setD (by rw [hsl]; omega)]
      by_cases hik : i = k
      · subst hik
        rw [if_pos rfl, getD_app, if_pos (by omega)]
      · have hi' : i < k := by omega
        obtain ⟨q0, q6, _, _⟩ := hg.ev i (by omega)
        by_cases e : (evp h i).toNat = (evp h k).toNat
        · have e4 : evp h i = evp h k := by omega
          rw [if_pos e, getD_app, if_neg ?_]
          · rw [← e]; exact hs.at_ i hi'
          · have h1 := cnt_succ h (evp h i) i
            rw [if_pos rfl] at h1
            have h2 : cnt h (evp h i) (i + 1) ≤ cnt h (evp h i) k := Vc.cnt_mono (by omega)
            have h3 : 0 ≤ cnt h (evp h i) i := Vc.cnt_nonneg
            rw [e4] at h1 h2 h3 ⊢
            omega
        · rw [if_neg e]; exact hs.at_ i hi') (by
    rintro ⟨st, kk⟩ ⟨e2, hs⟩
    dsimp only at e2 hs
    subst e2
    unfold cut_story_L1
    dsimp only
    rw [if_false' (dec_f (by omega))]
    exact ⟨_, rfl, hs⟩)
  refine ⟨v, st, ?_, e1, hv, s2⟩
  unfold cut_story
  rw [letO_def, letO_def, bind_of (vec_eq h), e1, letO_def, bind_of s1]
/-- Counts, and the vector of each process's m-th event. -/
structure Story (N : Nat → Int) (S : Nat → Int → Nat → Int) : Prop where
  nn : ∀ p, p < 6 → 0 ≤ N p ∧ N p ≤ 60
  own : ∀ p m, p < 6 → 1 ≤ m → m ≤ N p → S p m p = m
  rng : ∀ p m j, p < 6 → j < 6 → 1 ≤ m → m ≤ N p → 0 ≤ S p m j ∧ S p m j ≤ N j
  trans : ∀ p m q j, p < 6 → q < 6 → j < 6 → 1 ≤ m → m ≤ N p → 1 ≤ S p m q → S q (S p m q) j ≤ S p m j
  mono : ∀ p m m' j, p < 6 → j < 6 → 1 ≤ m → m ≤ m' → m' ≤ N p → S p m j ≤ S p m' j
theorem ev_at {h : List EV} {p : Int} {m : Int} (h1 : 1 ≤ m) : ∀ n, m ≤ cnt h p n → ∃ i, i < n ∧ evp h i = p ∧ cnt h p i = m - 1
  | 0, h => by simp only [cnt] at h; omega
  | n + 1, hm => by
    rw [cnt_succ] at hm
    by_cases hn : m ≤ cnt h p n
    · obtain ⟨i, i1, i2, i3⟩ := ev_at h1 n hn
      exact ⟨i, by omega, i2, i3⟩
    · split at hm
      · rename_i e; exact ⟨n, by omega, e, by omega⟩
      · omega
def SF (st : List (List (List Int))) (p : Nat) (m : Int) (j : Nat) : Int := ((st.getD p []).getD (m - 1).toNat z6).getD j 0
theorem SF_at {h : List EV} {v : List (List Int)} {st : List (List (List Int))} (hs : St h v h.length st) {p : Nat} {m : Int} (h1 : 1 ≤ m) (hm : m ≤ cnt h (p : Int) h.length) : ∃ i, i < h.length ∧ evp h i = (p : Int) ∧ cnt h (p : Int) i = m - 1 ∧ ∀ j, SF st p m j = (v.getD i z6).getD j 0 := by
  obtain ⟨i, i1, i2, i3⟩ := ev_at h1 h.length hm
  refine ⟨i, i1, i2, i3, fun j => ?_⟩
  have := hs.at_ i i1
  rw [i2, Int.toNat_natCast, i3] at this
  unfold SF
  rw [this]
theorem story_facts {h : List EV} {v : List (List Int)} {st : List (List (List Int))} (hc : chkF h = 0) (hv : VectRun h v) (hs : St h v h.length st) : Story (fun p => cnt h (p : Int) h.length) (SF st) := by
  have hg := Vc.good_of hc
  have hl := hg.len
  have hown : ∀ i, i < h.length → ∀ p : Nat, evp h i = (p : Int) → (v.getD i z6).getD p 0 = cnt h (p : Int) i + 1 := by
    intro i hi p e
    have := (Vc.vect_count hg hv i hi).2
    rw [e, Int.toNat_natCast, cnt_succ, if_pos e] at this
    exact this
  refine ⟨fun p hp => ?_, fun p m hp h1 h2 => ?_, fun p m j hp hj h1 h2 => ?_, fun p m q j hp hq hj h1 h2 h3 => ?_, fun p m m' j hp hj h1 h2 h3 => ?_⟩
  · have h0 : 0 ≤ cnt h (p : Int) h.length := Vc.cnt_nonneg
    have h1 : cnt h (p : Int) h.length ≤ (h.length : Nat) := Vc.cnt_le _
    exact ⟨h0, by omega⟩
  · obtain ⟨i, i1, i2, i3, i4⟩ := SF_at hs h1 h2
    rw [i4, hown i i1 p i2]
    omega
  · obtain ⟨i, i1, i2, i3, i4⟩ := SF_at hs h1 h2
    rw [i4]
    have a := (Vc.vect_bound hg hv i i1).2 j hj
    have b := (Vc.vect_count hg hv i i1).1 (j : Int) (by omega) (by omega)
    rw [Int.toNat_natCast] at b
    have c : cnt h (j : Int) (i + 1) ≤ cnt h (j : Int) h.length := Vc.cnt_mono (by omega)
    exact ⟨a.1, by omega⟩
  · obtain ⟨i, i1, i2, i3, i4⟩ := SF_at hs h1 h2
    rw [i4] at h3 ⊢
    rw [i4]
    have b := (Vc.vect_count hg hv i i1).1 (q : Int) (by omega) (by omega)
    rw [Int.toNat_natCast] at b
    have c : cnt h (q : Int) (i + 1) ≤ cnt h (q : Int) h.length := Vc.cnt_mono (by omega)
    obtain ⟨k, k1, k2, k3, k4⟩ := SF_at hs h3 (by omega : (v.getD i z6).getD q 0 ≤ cnt h (q : Int) h.length)
    rw [k4]
    have ho := hown k k1 q k2
    rcases Nat.lt_trichotomy k i with e | e | e
    · refine Vc.vect_hb hc hv (Vc.vect_tell hc hv i i1 k e ?_) i1 j hj
      rw [k2, Int.toNat_natCast]
      omega
    · rw [e]; exact Int.le_refl _
    · have d : cnt h (q : Int) (i + 1) ≤ cnt h (q : Int) k := Vc.cnt_mono (by omega)
      omega
  · obtain ⟨i, i1, i2, i3, i4⟩ := SF_at hs h1 (by omega : m ≤ cnt h (p : Int) h.length)
    obtain ⟨k, k1, k2, k3, k4⟩ := SF_at hs (by omega : 1 ≤ m') h3
    rw [i4, k4]
    rcases Nat.lt_trichotomy i k with e | e | e
    · exact Vc.vect_dir hc hv k k1 i e (Vc.dir_same (by rw [i2, k2])) j hj
    · rw [e]; exact Int.le_refl _
    · have d : cnt h (p : Int) (k + 1) ≤ cnt h (p : Int) i := Vc.cnt_mono (by omega)
      rw [cnt_succ, if_pos k2] at d
      omega
/-! ### Growing -/
def gk (S : Nat → Int → Nat → Int) (c : Nat → Int) : Nat → Nat → Int
  | 0, j => c j
  | k + 1, j => if 0 < c k then mxI (gk S c k j) (S k (c k) j) else gk S c k j
structure Valid (N : Nat → Int) (c : List Int) : Prop where
  len : c.length = 6
  rng : ∀ j, j < 6 → 0 ≤ c.getD j 0 ∧ c.getD j 0 ≤ N j
def Closed (S : Nat → Int → Nat → Int) (c : Nat → Int) : Prop := ∀ p, p < 6 → 0 < c p → ∀ j, j < 6 → S p (c p) j ≤ c j
theorem gk_ge {S : Nat → Int → Nat → Int} {c : Nat → Int} {j : Nat} : ∀ k, c j ≤ gk S c k j
  | 0 => Int.le_refl _
  | k + 1 => by
    simp only [gk]
    have := gk_ge (S := S) (c := c) (j := j) k
    have := mxI_cases (gk S c k j) (S k (c k) j)
    split <;> omega
theorem gk_in {S : Nat → Int → Nat → Int} {c : Nat → Int} {j p : Nat} (hc : 0 < c p) : ∀ k, p < k → S p (c p) j ≤ gk S c k j
  | k + 1, hp => by
    simp only [gk]
    have h := mxI_cases (gk S c k j) (S k (c k) j)
    by_cases e : p = k
    · subst e; rw [if_pos hc]; omega
    · have := gk_in (S := S) (j := j) hc k (by omega)
      split <;> omega
theorem gk_le {S : Nat → Int → Nat → Int} {c : Nat → Int} {j : Nat} {b : Int} (h0 : c j ≤ b) : ∀ k, (∀ p, p < k → 0 < c p → S p (c p) j ≤ b) → gk S c k j ≤ b
  | 0, _ => h0
  | k + 1, h => by
    simp only [gk]
    have := gk_le (S := S) h0 k fun p hp => h p (by omega)
    split
    · rename_i e; exact mxI_le this (h k (by omega) e)
    · exact this
theorem gk_or {S : Nat → Int → Nat → Int} {c : Nat → Int} {j : Nat} : ∀ k, gk S c k j = c j ∨ ∃ p, p < k ∧ 0 < c p ∧ gk S c k j = S p (c p) j
  | 0 => .inl rfl
  | k + 1 => by
    simp only [gk]
    have ih := gk_or (S := S) (c := c) (j := j) k
    split
    · rename_i e
      rcases (mxI_cases (gk S c k j) (S k (c k) j)).2 with h | h
      · rw [h]
        rcases ih with ih | ⟨p, p1, p2, p3⟩
        · exact .inl ih
        · exact .inr ⟨p, by omega, p2, p3⟩
      · exact .inr ⟨k, by omega, e, h⟩
    · rcases ih with ih | ⟨p, p1, p2, p3⟩
      · exact .inl ih
      · exact .inr ⟨p, by omega, p2, p3⟩
section
variable {N : Nat → Int} {S : Nat → Int → Nat → Int}
theorem gk_valid (hS : Story N S) {c : Nat → Int} (hc : ∀ j, j < 6 → 0 ≤ c j ∧ c j ≤ N j) {j : Nat} (hj : j < 6) : 0 ≤ gk S c 6 j ∧ gk S c 6 j ≤ N j := by
  have h0 := hc j hj
  refine ⟨Int.le_trans h0.1 (gk_ge 6), gk_le h0.2 6 fun p hp h1 => (hS.rng p (c p) j hp hj (by omega) (hc p hp).2).2⟩
theorem gk_closed (hS : Story N S) {c : Nat → Int} (hc : ∀ j, j < 6 → 0 ≤ c j ∧ c j ≤ N j) : Closed S (gk S c 6) := by
  intro p hp h0 j hj
  rcases gk_or (S := S) (c := c) (j := p) 6 with e | ⟨q, q1, q2, q3⟩
  · rw [e] at h0 ⊢
    exact gk_in h0 6 hp
  · rw [q3] at h0 ⊢
    exact Int.le_trans (hS.trans q (c q) p j q1 hp hj (by omega) (hc q q1).2 (by omega)) (gk_in q2 6 q1)
theorem gk_fix {c : Nat → Int} (h : Closed S c) {j : Nat} (hj : j < 6) : gk S c 6 j = c j := by
  have h1 := gk_ge (S := S) (c := c) (j := j) 6
  have h2 := gk_le (S := S) (c := c) (j := j) (b := c j) (Int.le_refl _) 6 fun p hp h0 => h p hp h0 j hj
  omega
theorem gk_mono (hS : Story N S) {c d : Nat → Int} (hd : ∀ j, j < 6 → d j ≤ N j) (hcd : ∀ j, j < 6 → c j ≤ d j) {j : Nat} (hj : j < 6) : gk S c 6 j ≤ gk S d 6 j := by
  refine gk_le (Int.le_trans (hcd j hj) (gk_ge 6)) 6 fun p hp h0 => ?_
  have h1 := hcd p hp
  exact Int.le_trans (hS.mono p (c p) (d p) j hp hj (by omega) h1 (hd p hp)) (gk_in (by omega) 6 hp)
theorem closed_of_fix {c : Nat → Int} (h : ∀ j, j < 6 → gk S c 6 j = c j) : Closed S c := fun p hp h0 j hj => by
  rw [← h j hj]
  exact gk_in h0 6 hp
theorem closed_max (hS : Story N S) {a b m : Nat → Int} (ha : Closed S a) (hb : Closed S b) (hm : ∀ j, j < 6 → m j = mxI (a j) (b j)) : Closed S m := by
  intro p hp h0 j hj
  have c1 := mxI_cases (a p) (b p)
  have c2 := mxI_cases (a j) (b j)
  rw [hm j hj]
  rw [hm p hp] at h0 ⊢
  rcases c1.2 with e | e
  · rw [e] at h0 ⊢
    have := ha p hp h0 j hj; omega
  · rw [e] at h0 ⊢
    have := hb p hp h0 j hj; omega
theorem closed_min (hS : Story N S) {a b m : Nat → Int} (va : ∀ j, j < 6 → a j ≤ N j) (vb : ∀ j, j < 6 → b j ≤ N j) (ha : Closed S a) (hb : Closed S b) (hm : ∀ j, j < 6 → m j = mnI (a j) (b j)) : Closed S m := by
  intro p hp h0 j hj
  have c1 := mnI_cases (a p) (b p)
  have c2 := mnI_cases (a j) (b j)
  rw [hm j hj]
  rw [hm p hp] at h0 ⊢
  have hap : 0 < a p := by omega
  have hbp : 0 < b p := by omega
  have h1 := ha p hp hap j hj
  have h2 := hb p hp hbp j hj
  rcases c1.2 with e | e
  · rw [e] at h0 ⊢
    have := hS.mono p (a p) (b p) j hp hj (by omega) (by omega) (vb p hp)
    omega
  · rw [e] at h0 ⊢
    have := hS.mono p (b p) (a p) j hp hj (by omega) (by omega) (va p hp)
    omega
end
theorem minV_at {a b : List Int} (ha : a.length = 6) {j : Nat} (hj : j < 6) : (minV a b).getD j 0 = mnI (a.getD j 0) (b.getD j 0) := by
  rw [Vc.vset_at _ _ _ _ (by omega) j, if_pos hj]
theorem minV_len {a b : List Int} : (minV a b).length = a.length := Vc.vset_len _ _ _ _
end Go.Proofs.Ytdahfpfkjljojaa.Ct
