/- The number of an event is the length of the longest way of causes: StampLong. -/
import Derived.Test.YtcghecmefpldmaaHist7
import Derived.Test.YtcghecmefpldmaaPure2
open Go Go.Proofs.Ytcghecmefpldmaa.Sy Go.Proofs.Ytcghecmefpldmaa.Pu
set_option linter.unusedVariables false
set_option linter.unusedSimpArgs false
namespace Go.Proofs.Ytcghecmefpldmaa.Vc
/-- Who has a number above 1 has someone just ahead with one less. -/
theorem stamp_step {h : List EV} {s : List Int} (hc : chkF h = 0) (hg : Good h) (hs : StampRun h s) {k : Nat} (hk : k < h.length) (hn : 1 < s.getD k 0) : ∃ i, i < k ∧ Hb h i k ∧ s.getD i 0 = s.getD k 0 - 1 := by
  have e := stamp_at hg hs hk
  have hwas : was (0 : Int) h (s.getD · 0) k = s.getD k 0 - 1 → ∃ i, i < k ∧ Hb h i k ∧ s.getD i 0 = s.getD k 0 - 1 := by
    intro hw
    unfold was at hw
    rcases lastOf_cases (fun j => evp h j == evp h k) (s.getD · 0) (0 : Int) k with ⟨h1, _⟩ | ⟨j, j1, j2, j3, _⟩
    · omega
    · exact ⟨j, j1, hb_iff.2 ⟨j, j1, dir_same (by simpa using j2), .inl rfl⟩, by rw [← hw]; exact j3.symm⟩
  by_cases ht : (evk h k == (3 : Int)) = true
  · rw [if_pos ht] at e
    have c := mxI_cases (was (0 : Int) h (s.getD · 0) k) (sentBy (0 : Int) h (s.getD · 0) k)
    rcases c.2 with c2 | c2
    · exact hwas (by omega)
    · have hw : sentBy (0 : Int) h (s.getD · 0) k = s.getD k 0 - 1 := by omega
      unfold sentBy at hw
      rcases lastOf_cases (fun j => evk h j == 2 && evm h j == evm h k) (s.getD · 0) (0 : Int) k with ⟨h1, _⟩ | ⟨j, j1, j2, j3, _⟩
      · omega
      · simp only [Bool.and_eq_true, beq_iff_eq] at j2
        exact ⟨j, j1, hb_iff.2 ⟨j, j1, dir_msg (by simpa using ht) j2.1 j2.2, .inl rfl⟩, by rw [← hw]; exact j3.symm⟩
  · rw [if_neg ht] at e
    exact hwas (by omega)
/-- What the function in StampLong asks. -/
def longB (k : Int) (s : List Int) (n : Int) (x : PV) : Bool := (x.2.1 == k) && (s.getD x.1.toNat 0 == n - 1)
theorem contF_eq {a : List PV} {k : Nat} {s : List Int} {n : Int} (ha : a.length < 1000000) (hs : ∀ e ∈ a, 0 ≤ e.1 ∧ e.1 < (s.length : Int)) (hn : 0 ≤ n ∧ n < 1000000) :
    slices_ContainsFunc_LPair_Pair_1_25 a ((k : Int), s, n, ()) = some (a.any (longB k s n)) := by
  unfold slices_ContainsFunc_LPair_Pair_1_25
  have h1 : slices_IndexFunc_LPair_Pair_1_25 a ((k : Int), s, n, ()) = some (match a.findIdx? (longB k s n) with
      | some j => (j : Int)
      | none => -1) := by
    unfold slices_IndexFunc_LPair_Pair_1_25
    rw [letO_def]
    have hl := find_loop (B := fun x : Int => slices_IndexFunc_LPair_Pair_1_25_L1 a ((k : Int), s, n, ()) (a.length : Int) x) (l := a) (d := ((0 : Int), (0 : Int), ())) (P := longB k s n) (g := fun j => Sum.inr (j : Int)) (e := Sum.inl ()) (fun j hj => by
      unfold slices_IndexFunc_LPair_Pair_1_25_L1 StampLong_1
      have hm := hs _ (mem_getD' (d := ((0 : Int), (0 : Int), ())) hj)
      rw [if_true' (dec_t (by omega)), ck_in (by omega)]
      simp only [Int.toNat_natCast]
      rw [ck_in (fun _ => hm), sub64 (by omega) (by omega)]
      show (if longB k s n (a.getD j ((0 : Int), (0 : Int), ())) = true then _ else _) = _
      rw [inc64 (by omega)]) (by
      unfold slices_IndexFunc_LPair_Pair_1_25_L1
      rw [if_false' (dec_f (by omega))])
    cases hf : a.findIdx? (longB k s n) with
    | none => rw [hf] at hl; exact bindE_inl hl
    | some j => rw [hf] at hl; exact bindE_inr hl
  rw [bind_of h1]
  cases hf : a.findIdx? (longB k s n) with
  | none =>
    rw [List.findIdx?_eq_none_iff] at hf
    rw [show a.any (longB k s n) = false from List.any_eq_false.2 fun x hx => by rw [hf x hx]; simp]
    rfl
  | some j =>
    obtain ⟨h1, h2, _⟩ := find_at (d := ((0 : Int), (0 : Int), ())) hf
    rw [show a.any (longB k s n) = true from List.any_eq_true.2 ⟨_, mem_getD' h1, h2⟩]
    simp
abbrev two : List EV := [((0 : Int), (1 : Int), (0 : Int), ()), ((0 : Int), (1 : Int), (0 : Int), ())]
theorem ahead_two : stamp_Ahead two = some ([((0 : Int), (1 : Int), ())], 0) := by
  obtain ⟨M, g1, g2, g3⟩ := ahead_L1 (h := two) (by decide)
  have hb : ∀ x y, Hb two x y → y < 2 → x = 0 ∧ y = 1 := fun x y h hy => by have := h.lt; omega
  have h01 : Hb two 0 1 := hb_iff.2 ⟨0, by omega, by decide, .inl rfl⟩
  have hM : ∀ i k, i < 2 → k < 2 → (M.getD k []).getD i false = decide (i = 0 ∧ k = 1) := by
    intro i k hi hk
    have := (g3 k hk).2 i hi
    by_cases e : i = 0 ∧ k = 1
    · obtain ⟨rfl, rfl⟩ := e
      rw [this.2 h01]; rfl
    · rw [decide_eq_false e]
      cases hv : (M.getD k []).getD i false with
      | false => rfl
      | true => exact absurd (hb _ _ (this.1 hv) hk) e
  have hst : ∀ (i k : Nat) (l : List PV), i < 2 → k < 2 → l.length < 100 → stamp_Ahead_L6 M (i : Int) (2 : Int) l (k : Int) = some (.inl (if decide (i = 0 ∧ k = 1) = true then l ++ [((i : Int), (k : Int), ())] else l, ((k + 1 : Nat) : Int))) := by
    intro i k l hi hk hl
    have hr := (g3 k hk).1
    have hr2 : (M.getD k []).length = 2 := hr
    have hM2 : M.length = 2 := g2
    unfold stamp_Ahead_L6
    rw [if_true' (dec_t (by omega)), ck_in (by omega)]
    simp only [Int.toNat_natCast]
    rw [ck_in (by omega)]
    unfold stamp_Ahead_J7
    have hMik := hM i k hi hk
    by_cases e : i = 0 ∧ k = 1
    · rw [if_true' (hMik.trans (dec_t e)), if_true' (dec_t e), ck_in (le_maxL (by simp; omega)), inc64 (by omega)]
    · rw [if_false' (hMik.trans (dec_f e)), if_false' (dec_f e), inc64 (by omega)]
  have hend : ∀ (i : Nat) (l : List PV), stamp_Ahead_L6 M (i : Int) (2 : Int) l (2 : Int) = some (.inr l) := by
    intro i l
    unfold stamp_Ahead_L6
    rw [if_false' (dec_f (by omega))]
  have h0 : loopO (fun x : List PV × Int => stamp_Ahead_L6 M (0 : Int) (2 : Int) x.1 x.2) (([] : List PV), (0 : Int)) = some [((0 : Int), (1 : Int), ())] := by
    refine (loopO_next (hst 0 0 [] (by omega) (by omega) (by decide))).trans ((loopO_next (hst 0 1 [] (by omega) (by omega) (by decide))).trans (loopO_done (hend 0 _)))
  have h1 : loopO (fun x : List PV × Int => stamp_Ahead_L6 M (1 : Int) (2 : Int) x.1 x.2) ([((0 : Int), (1 : Int), ())], (0 : Int)) = some [((0 : Int), (1 : Int), ())] := by
    refine (loopO_next (hst 1 0 _ (by omega) (by omega) (by decide))).trans ((loopO_next (hst 1 1 _ (by omega) (by omega) (by decide))).trans (loopO_done (hend 1 _)))
  have h5 : loopO (fun x : List PV × Int => stamp_Ahead_L5 two M (2 : Int) x.1 x.2) (([] : List PV), (0 : Int)) = some [((0 : Int), (1 : Int), ())] := by
    refine (loopO_next (x' := ([((0 : Int), (1 : Int), ())], (1 : Int))) ?_).trans ((loopO_next (x' := ([((0 : Int), (1 : Int), ())], (2 : Int))) ?_).trans (loopO_done ?_))
    · unfold stamp_Ahead_L5
      dsimp only
      rw [if_true' (by decide), letO_def]
      exact bind_of h0
    · unfold stamp_Ahead_L5
      dsimp only
      rw [if_true' (by decide), letO_def]
      exact bind_of h1
    · unfold stamp_Ahead_L5
      dsimp only
      rw [if_false' (by decide)]
  have hc : chkF two = 0 := by decide
  unfold stamp_Ahead
  rw [bind_of (check_eq two), hc, if_false' (by decide), ck_in (by decide), ck_in (le_maxL (by decide)), letO_def, letO_def, Int.toNat_natCast, bind_of g1, letO_def]
  exact bind_of h5
theorem long_law (h : List EV) : StampLong h = some true := by
  unfold StampLong
  have he : slices_Equal_LPair_Pair [((0 : Int), (1 : Int), ())] [((0 : Int), (1 : Int), ())] = some true := by
    unfold slices_Equal_LPair_Pair
    rw [if_false' (by decide), letO_def]
    refine bindE_inl (y := ()) ((loopO_next (x' := (1 : Int)) ?_).trans (loopO_done ?_))
    · unfold slices_Equal_LPair_Pair_L1
      rw [if_true' (by decide), ck_in (by decide), ck_in (by decide), if_false' (by decide)]
      rfl
    · unfold slices_Equal_LPair_Pair_L1
      rw [if_false' (by decide)]
  rw [bind_of ahead_two]
  dsimp only
  rw [he, letO_def, ck_in (fun _ => by rfl), if_false' (by decide), bind_of (stamps_eq h)]
  by_cases hc : chkF h = 0
  · obtain ⟨e1, hg, hs⟩ := stampsF_ok hc
    obtain ⟨a, ha, hp⟩ := ahead_ok hc
    rw [bind_of ha, e1]
    generalize stampsO h = s at hs
    have hl := hg.len
    have hsl : s.length = h.length := hs.len
    have hal := hp.len
    rw [if_false' (by rfl), letO_def]
    refine bindE_inl (y := ()) (all_loop (d := (0 : Int)) (l := s) (fun k hk => ?_) ?_)
    · have hbd := stamp_bound hg hs k (by omega)
      have hel : ∀ e ∈ a, 0 ≤ e.1 ∧ e.1 < (s.length : Int) := by
        intro e he
        obtain ⟨x, y, rfl, hy, hxy⟩ := (hp.mem _).1 he
        have := hxy.lt
        dsimp only
        omega
      have hcf := contF_eq (a := a) (k := k) (s := s) (n := s.getD k 0) (by omega) hel (by omega)
      unfold StampLong_L1
      dsimp only
      rw [if_true' (dec_t (by omega)), ck_in (by omega), letO_def]
      simp only [Int.toNat_natCast]
      rw [hcf, letO_def, ck_in (fun _ => by rfl), Option.getD_some, if_false' ?_, inc64 (by omega)]
      rw [Bool.and_eq_false_iff]
      by_cases hn : s.getD k 0 > 1
      · right
        obtain ⟨i, i1, i2, i3⟩ := stamp_step hc hg hs (k := k) (by omega) hn
        have hm : (((i : Int), (k : Int), ()) : PV) ∈ a := (hp.mem _).2 ⟨i, k, rfl, by omega, i2⟩
        have : a.any (longB k s (s.getD k 0)) = true := List.any_eq_true.2 ⟨_, hm, by unfold longB; dsimp only; rw [Int.toNat_natCast, i3]; simp⟩
        rw [this]; rfl
      · exact .inl (dec_f hn)
    · unfold StampLong_L1
      dsimp only
      rw [if_false' (dec_f (by omega))]
  · rw [stampsF_no hc, bind_of (ahead_no hc), if_true' (by simpa using hc)]
    simp
end Go.Proofs.Ytcghecmefpldmaa.Vc
