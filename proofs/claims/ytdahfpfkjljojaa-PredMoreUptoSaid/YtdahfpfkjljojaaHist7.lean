/- The laws StampAhead, VectTells. -/
import Derived.Test.YtdahfpfkjljojaaHist6
open Go Go.Proofs.Ytdahfpfkjljojaa.Sy Go.Proofs.Ytdahfpfkjljojaa.Pu
set_option linter.unusedVariables false
set_option linter.unusedSimpArgs false
namespace Go.Proofs.Ytdahfpfkjljojaa.Vc

/-- The last event of the same process, if there is one. -/
theorem was_some {α : Type} {z : α} {h : List EV} {o : Nat → α} {i k : Nat} (hik : i < k) (hp : evp h i = evp h k) : ∃ w, i ≤ w ∧ w < k ∧ evp h w = evp h k ∧ was z h o k = o w := by
  unfold was
  rcases lastOf_cases (fun j => evp h j == evp h k) o z k with ⟨_, h2⟩ | ⟨w, h1, h2, h3, h4⟩
  · have := h2 i hik
    rw [hp] at this
    simp at this
  · refine ⟨w, ?_, h1, by simpa using h2, h3⟩
    refine Classical.byContradiction fun hn => ?_
    have := h4 i (by omega) hik
    rw [hp] at this
    simp at this
/-- The event that sent it. -/
theorem sent_some {α : Type} {z : α} {h : List EV} (hc : chkF h = 0) {o : Nat → α} {i k : Nat} (hik : i < k) (hk : k < h.length) (h2 : evk h i = 2) (hm : evm h i = evm h k) : sentBy z h o k = o i := by
  unfold sentBy
  rcases lastOf_cases (fun j => evk h j == 2 && evm h j == evm h k) o z k with ⟨_, g2⟩ | ⟨u, g1, g2, g3, g4⟩
  · have := g2 i hik
    rw [h2, hm] at this
    simp at this
  · rw [g3]
    simp only [Bool.and_eq_true, beq_iff_eq] at g2
    have : u = i := by
      rcases Nat.lt_trichotomy u i with h | h | h
      · exact absurd (g2.2.trans hm.symm) (send_once hc h (by omega) g2.1 h2)
      · exact h
      · exact absurd (hm.trans g2.2.symm) (send_once hc h (by omega) h2 g2.1)
    rw [this]
theorem dir_cases {h : List EV} {i k : Nat} (hd : dirB h i k = true) : evp h i = evp h k ∨ (evk h k = 3 ∧ evk h i = 2 ∧ evm h i = evm h k) := by
  simp only [dirB, Bool.or_eq_true, Bool.and_eq_true, beq_iff_eq] at hd
  rcases hd with h1 | ⟨⟨h1, h2⟩, h3⟩
  · exact .inl h1
  · exact .inr ⟨h1, h2, h3⟩
theorem dir_same {h : List EV} {i k : Nat} (hp : evp h i = evp h k) : dirB h i k = true := by simp [dirB, hp]
theorem dir_msg {h : List EV} {i k : Nat} (h1 : evk h k = 3) (h2 : evk h i = 2) (h3 : evm h i = evm h k) : dirB h i k = true := by simp [dirB, h1, h2, h3]

/-! ### Stamps -/
theorem stamp_at {h : List EV} {s : List Int} (hg : Good h) (hs : StampRun h s) {k : Nat} (hk : k < h.length) : s.getD k 0 = (if (evk h k == (3 : Int)) = true then mxI (was (0 : Int) h (s.getD · 0) k) (sentBy (0 : Int) h (s.getD · 0) k) else was (0 : Int) h (s.getD · 0) k) + 1 := by
  have hl := hg.len
  have hw : 0 ≤ was (0 : Int) h (s.getD · 0) k ∧ was (0 : Int) h (s.getD · 0) k ≤ k := lastOf_prop (fun x => 0 ≤ x ∧ x ≤ (k : Int)) ⟨Int.le_refl _, by omega⟩ fun j hj _ => by have := stamp_bound hg hs j (by omega); omega
  have hn : 0 ≤ sentBy (0 : Int) h (s.getD · 0) k ∧ sentBy (0 : Int) h (s.getD · 0) k ≤ k := lastOf_prop (fun x => 0 ≤ x ∧ x ≤ (k : Int)) ⟨Int.le_refl _, by omega⟩ fun j hj _ => by have := stamp_bound hg hs j (by omega); omega
  rw [hs.at_ k hk]
  simp only [given, upI]
  have hm := mxI_cases (was (0 : Int) h (s.getD · 0) k) (sentBy (0 : Int) h (s.getD · 0) k)
  split
  · rw [inc_eq (by omega) (by omega)]
  · rw [inc_eq (by omega) (by omega)]
theorem stamp_dir {h : List EV} {s : List Int} (hc : chkF h = 0) (hs : StampRun h s) : ∀ k, k < h.length → ∀ i, i < k → dirB h i k = true → s.getD i 0 < s.getD k 0 := by
  intro k
  induction k using Nat.strongRecOn with
  | _ k ih =>
    intro hk i hik hd
    have hg := good_of hc
    rw [stamp_at hg hs hk]
    have hm := mxI_cases (was (0 : Int) h (s.getD · 0) k) (sentBy (0 : Int) h (s.getD · 0) k)
    rcases dir_cases hd with hp | ⟨h3, h2, hmm⟩
    · obtain ⟨w, w1, w2, w3, w4⟩ := was_some (z := (0 : Int)) (o := (s.getD · 0)) hik hp
      have hle : s.getD i 0 ≤ s.getD w 0 := by
        by_cases e : i = w
        · rw [e]; exact Int.le_refl _
        · have := ih w w2 (by omega) i (by omega) (dir_same (hp.trans w3.symm)); omega
      rw [w4] at hm ⊢
      split <;> omega
    · have := sent_some (z := (0 : Int)) hc (o := (s.getD · 0)) hik hk h2 hmm
      rw [this] at hm ⊢
      rw [if_pos (by rw [h3]; decide)]
      omega
theorem stamp_hb {h : List EV} {s : List Int} (hc : chkF h = 0) (hs : StampRun h s) {i k : Nat} (hh : Hb h i k) : k < h.length → s.getD i 0 < s.getD k 0 := by
  induction hh with
  | step h1 h2 => exact fun hk => stamp_dir hc hs _ hk _ h1 h2
  | trans h1 h2 h3 ih =>
    intro hk
    have := ih (by omega)
    have := stamp_dir hc hs _ hk _ h2 h3
    omega
theorem ahead_law (h : List EV) : StampAhead h = some true := by
  unfold StampAhead
  have e0 : stampsF [((0 : Int), (2 : Int), (0 : Int), ()), ((1 : Int), (1 : Int), (0 : Int), ()), ((1 : Int), (3 : Int), (0 : Int), ())] = ([1, 1, 2], 0) := by decide +kernel
  rw [bind_of (stamps_eq _), e0, equalI_eq _ _ (by decide), letO_def, ck_in (fun _ => by rfl), if_false' (by decide), bind_of (stamps_eq h)]
  by_cases hc : chkF h = 0
  · obtain ⟨e1, hg, hs⟩ := stampsF_ok hc
    obtain ⟨a, ha, hp⟩ := ahead_ok hc
    rw [bind_of ha, e1]
    generalize stampsO h = s at hs
    have hl := hg.len
    have hsl : s.length = h.length := hs.len
    have hal := hp.len
    rw [if_false' (by rfl), letO_def]
    have h1 : loopO (fun x : Int => StampAhead_L1 (s, (0 : Int)) (a, (0 : Int)) (a.length : Int) x) (0 : Int) = some (.inl ()) := by
      refine loop_from (fun k => (k : Int)) a.length rfl (fun k hk => ?_) ?_
      · have hm : a.getD k ((0 : Int), (0 : Int), ()) ∈ a := by rw [getD_lt hk]; exact List.getElem_mem hk
        obtain ⟨x, y, exy, hy, hxy⟩ := (hp.mem _).1 hm
        have hlt := stamp_hb hc hs hxy hy
        have hx := hxy.lt
        unfold StampAhead_L1
        dsimp only
        rw [if_true' (dec_t (by omega)), ck_in (by omega), letO_def, Int.toNat_natCast, exy]
        dsimp only
        simp only [Int.toNat_natCast]
        rw [ck_in (by omega), ck_in (by omega), if_false' (dec_f (by omega)), inc64 (by omega)]
      · unfold StampAhead_L1
        rw [if_false' (dec_f (by omega))]
    rw [bindE_inl h1, letO_def]
    have h2 : loopO (fun x : Int => StampAhead_L2 h (s, (0 : Int)) (h.length : Int) x) (0 : Int) = some (.inl ()) := by
      refine loop_from (fun k => (k : Int)) h.length rfl (fun k hk => ?_) ?_
      · unfold StampAhead_L2
        rw [if_true' (dec_t (by omega)), ck_in (by omega), letO_def, ck_in (by omega), letO_def, letO_def]
        simp only [Int.toNat_natCast, List.drop_zero]
        have htk : (h.take k).length = k := by simp; omega
        rw [htk]
        refine bindE_inl (y := ()) (loop_from (fun i => (i : Int)) k rfl (fun i hi => ?_) ?_) |>.trans (by rw [inc64 (by omega)])
        · unfold StampAhead_L3
          dsimp only
          rw [if_true' (dec_t (by omega)), ck_in (by omega), letO_def, Int.toNat_natCast, Int.toNat_natCast, getD_take hi, ck_in (fun _ => by omega), ck_in (fun _ => by omega), inc64 (by omega), if_false' ?_]
          rw [Bool.and_eq_false_iff]
          by_cases hpp : evp h k = evp h i
          · right
            have := stamp_dir hc hs k hk i hi (dir_same hpp.symm)
            simp only [beq_eq_false_iff_ne, ne_eq]
            omega
          · left; exact beq_eq_false_iff_ne.2 hpp
        · unfold StampAhead_L3
          rw [if_false' (dec_f (by omega))]
      · unfold StampAhead_L2
        rw [if_false' (dec_f (by omega))]
    rw [bindE_inl h2]
    simp [hsl]
  · rw [stampsF_no hc, bind_of (ahead_no hc), if_true' (by simpa using hc)]
    have : arR .add .i64 ((([] : List Int).length : Nat) : Int) ((([] : List PV).length : Nat) : Int) = 0 := by decide +kernel
    rw [this]
    simp

/-! ### Vectors -/
theorem vect_dir {h : List EV} {v : List (List Int)} (hc : chkF h = 0) (hv : VectRun h v) : ∀ k, k < h.length → ∀ i, i < k → dirB h i k = true → ∀ j, j < 6 → (v.getD i z6).getD j 0 ≤ (v.getD k z6).getD j 0 := by
  intro k
  induction k using Nat.strongRecOn with
  | _ k ih =>
    intro hk i hik hd j hj
    have hg := good_of hc
    rw [vect_at hg hv hk hj]
    have hm := mxI_cases ((was z6 h (v.getD · z6) k).getD j 0) ((sentBy z6 h (v.getD · z6) k).getD j 0)
    rcases dir_cases hd with hp | ⟨h3, h2, hmm⟩
    · obtain ⟨w, w1, w2, w3, w4⟩ := was_some (z := z6) (o := (v.getD · z6)) hik hp
      have hle : (v.getD i z6).getD j 0 ≤ (v.getD w z6).getD j 0 := by
        by_cases e : i = w
        · rw [e]; exact Int.le_refl _
        · exact ih w w2 (by omega) i (by omega) (dir_same (hp.trans w3.symm)) j hj
      rw [w4] at hm ⊢
      split <;> split <;> omega
    · have := sent_some (z := z6) hc (o := (v.getD · z6)) hik hk h2 hmm
      rw [this] at hm ⊢
      rw [if_pos (show (evk h k == (3 : Int)) = true by rw [h3]; decide)]
      split <;> omega
theorem vect_hb {h : List EV} {v : List (List Int)} (hc : chkF h = 0) (hv : VectRun h v) {i k : Nat} (hh : Hb h i k) : k < h.length → ∀ j, j < 6 → (v.getD i z6).getD j 0 ≤ (v.getD k z6).getD j 0 := by
  induction hh with
  | step h1 h2 => exact fun hk => vect_dir hc hv _ hk _ h1 h2
  | trans h1 h2 h3 ih =>
    intro hk j hj
    exact Int.le_trans (ih (by omega) j hj) (vect_dir hc hv _ hk _ h2 h3 j hj)
theorem vect_tell {h : List EV} {v : List (List Int)} (hc : chkF h = 0) (hv : VectRun h v) : ∀ k, k < h.length → ∀ i, i < k → (v.getD i z6).getD (evp h i).toNat 0 ≤ (v.getD k z6).getD (evp h i).toNat 0 → Hb h i k := by
  intro k
  induction k using Nat.strongRecOn with
  | _ k ih =>
    intro hk i hik hle
    have hg := good_of hc
    by_cases hp : evp h i = evp h k
    · exact .step hik (dir_same hp)
    obtain ⟨g1, g2, _, _⟩ := hg.ev i (by omega)
    obtain ⟨k1, k2, _, _⟩ := hg.ev k hk
    have hown := (vect_count hg hv i (by omega)).2
    have hi1 : cnt h (evp h i) (i + 1) = cnt h (evp h i) i + 1 := by simp [cnt]
    have hi0 := cnt_nonneg (h := h) (p := evp h i) (k := i)
    rw [vect_at hg hv hk (show (evp h i).toNat < 6 by omega), if_neg (show ¬ (evp h i).toNat = (evp h k).toNat by omega)] at hle
    -- an event that came before k and knows i
    have key : ∀ w, w < k → dirB h w k = true → (v.getD i z6).getD (evp h i).toNat 0 ≤ (v.getD w z6).getD (evp h i).toNat 0 → Hb h i k := by
      intro w hw hd hlw
      rcases Nat.lt_trichotomy i w with h1 | h1 | h1
      · exact .trans (ih w hw (by omega) i h1 hlw) hw hd
      · subst h1; exact .step hik hd
      · exfalso
        have a := (vect_count hg hv w (by omega)).1 (evp h i) g1 g2
        have b := cnt_mono (h := h) (p := evp h i) (show w + 1 ≤ i by omega)
        omega
    have hcw : (v.getD i z6).getD (evp h i).toNat 0 ≤ (was z6 h (v.getD · z6) k).getD (evp h i).toNat 0 → Hb h i k := by
      intro hl
      unfold was at hl
      rcases lastOf_cases (fun j => evp h j == evp h k) (v.getD · z6) z6 k with ⟨h1, _⟩ | ⟨w, w1, w2, w3, _⟩
      · rw [h1, getD_rep] at hl; omega
      · rw [w3] at hl
        exact key w w1 (dir_same (by simpa using w2)) hl
    have hm := mxI_cases ((was z6 h (v.getD · z6) k).getD (evp h i).toNat 0) ((sentBy z6 h (v.getD · z6) k).getD (evp h i).toNat 0)
    rcases bdich (evk h k == (3 : Int)) with h3 | h3
    · rw [if_true' h3] at hle
      have h3' : evk h k = 3 := by simpa using h3
      rcases hm.2 with e | e
      · exact hcw (by omega)
      · have hl : (v.getD i z6).getD (evp h i).toNat 0 ≤ (sentBy z6 h (v.getD · z6) k).getD (evp h i).toNat 0 := by omega
        unfold sentBy at hl
        rcases lastOf_cases (fun j => evk h j == 2 && evm h j == evm h k) (v.getD · z6) z6 k with ⟨h1, _⟩ | ⟨u, u1, u2, u3, _⟩
        · rw [h1, getD_rep] at hl; omega
        · rw [u3] at hl
          simp only [Bool.and_eq_true, beq_iff_eq] at u2
          exact key u u1 (dir_msg h3' u2.1 u2.2) hl
    · rw [if_false' h3] at hle
      exact hcw (by omega)
theorem vect_ne {h : List EV} {v : List (List Int)} (hg : Good h) (hv : VectRun h v) {i k : Nat} (hik : i < k) (hk : k < h.length) : (v.getD i z6).getD (evp h k).toNat 0 < (v.getD k z6).getD (evp h k).toNat 0 := by
  obtain ⟨g1, g2, _, _⟩ := hg.ev k hk
  rw [(vect_count hg hv k hk).2]
  have a := (vect_count hg hv i (by omega)).1 (evp h k) g1 g2
  have b := cnt_mono (h := h) (p := evp h k) (show i + 1 ≤ k by omega)
  have c : cnt h (evp h k) (k + 1) = cnt h (evp h k) k + 1 := by simp [cnt]
  omega
theorem tells_at {h : List EV} {v : List (List Int)} (hc : chkF h = 0) (hv : VectRun h v) {i k : Nat} (hi : i < h.length) (hk : k < h.length) : (compareF (v.getD i z6) (v.getD k z6) = 1 ↔ Hb h i k) ∧ (i ≠ k → compareF (v.getD i z6) (v.getD k z6) ≠ 0) := by
  have hg := good_of hc
  by_cases e : i = k
  · subst e
    refine ⟨⟨fun h => ?_, fun h => absurd h.lt (Nat.lt_irrefl _)⟩, fun h => absurd rfl h⟩
    simp [compareF] at h
  have hne : v.getD i z6 ≠ v.getD k z6 := by
    intro he
    rcases Nat.lt_or_gt_of_ne e with h1 | h1
    · have := vect_ne hg hv h1 hk; rw [he] at this; omega
    · have := vect_ne hg hv h1 hi; rw [he] at this; omega
  have hcmp : compareF (v.getD i z6) (v.getD k z6) = 1 ↔ withinF (v.getD i z6) (v.getD k z6) = true := by
    unfold compareF
    rw [if_neg hne]
    rcases bdich (withinF (v.getD i z6) (v.getD k z6)) with h1 | h1
    · rw [if_true' h1, h1]; simp
    · rw [if_false' h1, h1]
      split <;> simp
  refine ⟨hcmp.trans ?_, fun _ => ?_⟩
  · rw [within_iff]
    constructor
    · intro hw
      rcases Nat.lt_or_gt_of_ne e with h1 | h1
      · obtain ⟨g1, g2, _, _⟩ := hg.ev i hi
        exact vect_tell hc hv k hk i h1 (hw _ (by omega))
      · obtain ⟨g1, g2, _, _⟩ := hg.ev i hi
        have a := vect_ne hg hv h1 hi
        have b := hw (evp h i).toNat (by omega)
        omega
    · intro hh
      exact vect_hb hc hv hh hk
  · unfold compareF
    rw [if_neg hne]
    split
    · decide
    · split <;> decide
theorem tells_law (h : List EV) : VectTells h = some true := by
  unfold VectTells
  have e0 : vectorsF [((0 : Int), (2 : Int), (0 : Int), ()), ((1 : Int), (3 : Int), (0 : Int), ())] = ([[1,0,0,0,0,0],[1,1,0,0,0,0]], 0) := by decide +kernel
  rw [bind_of (vectors_eq _), e0, ck_in (by decide), if_false' (by decide), bind_of (vectors_eq h)]
  by_cases hc : chkF h = 0
  · obtain ⟨e1, hg, hv⟩ := vectorsF_ok hc
    obtain ⟨a, ha, hp⟩ := ahead_ok hc
    rw [bind_of ha, e1]
    generalize vectorsO h = v at hv
    have hl := hg.len
    have hvl : v.length = h.length := hv.len
    have hal := hp.len
    rw [if_false' (by rfl), letO_def]
    refine bindE_inl (y := ()) (loop_from (fun k => (k : Int)) h.length rfl (fun i hi => ?_) ?_)
    · unfold VectTells_L1
      rw [if_true' (dec_t (by omega)), letO_def]
      refine bindE_inl (y := ()) (loop_from (fun k => (k : Int)) h.length rfl (fun k hk => ?_) ?_) |>.trans (by rw [inc64 (by omega)])
      · obtain ⟨t1, t2⟩ := tells_at hc hv hi hk
        unfold VectTells_L2
        dsimp only
        have hcki : 0 ≤ (i : Int) ∧ (i : Int) < ((v.length : Nat) : Int) := by omega
        have hckk : 0 ≤ (k : Int) ∧ (k : Int) < ((v.length : Nat) : Int) := by omega
        have hmem : ((i : Int), (k : Int), ()) ∈ a ↔ Hb h i k := by
          refine ⟨fun hm => ?_, fun hh => (hp.mem _).2 ⟨i, k, rfl, hk, hh⟩⟩
          obtain ⟨x, y, exy, _, hxy⟩ := (hp.mem _).1 hm
          have h1 : (i : Int) = (x : Int) := congrArg Prod.fst exy
          have h2 : (k : Int) = (y : Int) := congrArg (fun p => p.2.1) exy
          have h1 : i = x := by omega
          have h2 : k = y := by omega
          rw [h1, h2]; exact hxy
        rw [if_true' (dec_t (by omega)), bind_of (cont_eq a _ (by omega)), ck_in hcki, ck_in hckk]
        simp only [Int.toNat_natCast]
        rw [bind_of (compare_eq _ _), ck_in (fun _ _ => hcki), ck_in (fun _ _ => hckk), compare_eq, letO_def, ck_in (fun _ _ => by rfl), inc64 (by omega), if_false' ?_]
        rw [Bool.or_eq_false_iff]
        refine ⟨?_, ?_⟩
        · have : eqB (decide (((i : Int), (k : Int), ()) ∈ a)) (compareF (v.getD i z6) (v.getD k z6) == (1 : Int)) = true := by
            rw [eqB_iff, Bool.eq_iff_iff, decide_eq_true_eq, beq_iff_eq]
            exact hmem.trans t1.symm
          rw [this]; rfl
        · rw [Bool.and_eq_false_iff]
          by_cases e : i = k
          · left; subst e; simp
          · right
            simp only [Option.getD_some, beq_eq_false_iff_ne]
            exact t2 e
      · unfold VectTells_L2
        rw [if_false' (dec_f (by omega))]
    · unfold VectTells_L1
      rw [if_false' (dec_f (by omega))]
  · rw [vectorsF_no hc, bind_of (ahead_no hc), if_true' (by simpa using hc)]
    simp
end Go.Proofs.Ytdahfpfkjljojaa.Vc
