/- Histories: Stamps and Vectors are such runs. -/
import Derived.Test.YtdahfpfkjljojaaHist1
open Go Go.Proofs.Ytdahfpfkjljojaa.Sy Go.Proofs.Ytdahfpfkjljojaa.Pu
set_option linter.unusedVariables false
set_option linter.unusedSimpArgs false
namespace Go.Proofs.Ytdahfpfkjljojaa.Vc

/-! ### Vectors, part by part -/
def vset (f : Int → Int → Int) (a b : List Int) (n : Nat) : List Int := (List.range n).foldl (fun a i => a.set i (f (a.getD i (0 : Int)) (b.getD i (0 : Int)))) a
theorem vset_succ (f : Int → Int → Int) (a b : List Int) (n : Nat) : vset f a b (n + 1) = (vset f a b n).set n (f ((vset f a b n).getD n (0 : Int)) (b.getD n (0 : Int))) := by
  simp only [vset, List.range_succ, List.foldl_append, List.foldl_cons, List.foldl_nil]
theorem vset_len (f : Int → Int → Int) (a b : List Int) : ∀ n, (vset f a b n).length = a.length
  | 0 => rfl
  | n + 1 => by rw [vset_succ, List.length_set, vset_len f a b n]
theorem vset_at (f : Int → Int → Int) (a b : List Int) : ∀ n, n ≤ a.length → ∀ j, (vset f a b n).getD j 0 = if j < n then f (a.getD j 0) (b.getD j 0) else a.getD j 0
  | 0, _, j => by simp [vset]
  | n + 1, hn, j => by
    rw [vset_succ, getD_setD (by rw [vset_len]; omega)]
    rw [vset_at f a b n (by omega) n, if_neg (Nat.lt_irrefl n), vset_at f a b n (by omega) j]
    by_cases h : j = n
    · subst h; rw [if_pos rfl, if_pos (by omega)]
    · rw [if_neg h]
      by_cases h2 : j < n
      · rw [if_pos h2, if_pos (by omega)]
      · rw [if_neg h2, if_neg (by omega)]
abbrev maxV (a b : List Int) : List Int := vset mxI a b 6
abbrev minV (a b : List Int) : List Int := vset mnI a b 6
theorem max_eq (a b : List Int) : vect_Max a b = some (maxV a b) := by
  simp only [vect_Max, letO_def]
  refine bind_of (loop_from (fun k => (vset mxI a b k, (k : Int))) 6 rfl (fun k hk => ?_) ?_)
  · dsimp only
    unfold vect_Max_L1
    have h1 : 0 ≤ (k : Int) ∧ (k : Int) < 6 := by omega
    rw [if_true' (dec_t h1.2), ck_in h1, ck_in h1, ck_in h1, letO_def, inc64 (by omega), Int.toNat_natCast, vset_succ]
  · rfl
theorem min_eq (a b : List Int) : vect_Min a b = some (minV a b) := by
  simp only [vect_Min, letO_def]
  refine bind_of (loop_from (fun k => (vset mnI a b k, (k : Int))) 6 rfl (fun k hk => ?_) ?_)
  · dsimp only
    unfold vect_Min_L1
    have h1 : 0 ≤ (k : Int) ∧ (k : Int) < 6 := by omega
    rw [if_true' (dec_t h1.2), ck_in h1, ck_in h1, ck_in h1, letO_def, inc64 (by omega), Int.toNat_natCast, vset_succ]
  · rfl
def withinF (a b : List Int) : Bool := (List.range 6).all fun j => decide (a.getD j 0 ≤ b.getD j 0)
theorem within_iff {a b : List Int} : withinF a b = true ↔ ∀ j, j < 6 → a.getD j 0 ≤ b.getD j 0 := by
  simp only [withinF, List.all_eq_true, List.mem_range, decide_eq_true_eq]
theorem within_eq (a b : List Int) : vect_Within a b = some (withinF a b) := by
  simp only [vect_Within, letO_def]
  have key : ∀ m k : Nat, k + m = 6 → (∀ j, j < k → a.getD j 0 ≤ b.getD j 0) → loopO (fun x : Int => vect_Within_L1 a b x) (k : Int) = some (if withinF a b = true then .inl () else .inr false) := by
    intro m
    induction m with
    | zero =>
      intro k hk hj
      refine loopO_done ?_
      have : k = 6 := by omega
      subst this
      rw [if_pos (within_iff.2 hj)]
      rfl
    | succ m ih =>
      intro k hk hj
      have h1 : 0 ≤ (k : Int) ∧ (k : Int) < 6 := by omega
      have hst : vect_Within_L1 a b (k : Int) = if a.getD k 0 ≤ b.getD k 0 then some (.inl ((k + 1 : Nat) : Int)) else some (.inr (.inr false)) := by
        unfold vect_Within_L1
        rw [if_true' (dec_t h1.2), ck_in h1, ck_in h1, inc64 (by omega), Int.toNat_natCast]
        by_cases hc : a.getD k 0 ≤ b.getD k 0
        · rw [if_pos hc, if_false' (dec_f (by omega))]
        · rw [if_neg hc, if_true' (dec_t (by omega))]
      by_cases hc : a.getD k 0 ≤ b.getD k 0
      · rw [if_pos hc] at hst
        refine (loopO_next hst).trans (ih (k + 1) (by omega) fun j hjk => ?_)
        by_cases e : j = k
        · subst e; exact hc
        · exact hj j (by omega)
      · rw [if_neg hc] at hst
        rw [if_neg (fun h => hc (within_iff.1 h k (by omega)))]
        exact loopO_done hst
  have := key 6 0 rfl (fun j hj => by omega)
  rcases bdich (withinF a b) with h | h
  · rw [if_true' h] at this
    exact (bindE_inl this).trans (by rw [h])
  · rw [if_false' h] at this
    exact (bindE_inr this).trans (by rw [h])
def compareF (a b : List Int) : Int := if a = b then 0 else if withinF a b = true then 1 else if withinF b a = true then 2 else 3
theorem compare_eq (a b : List Int) : vect_Compare a b = some (compareF a b) := by
  simp only [vect_Compare, compareF]
  by_cases h : a = b
  · rw [if_true' ((eqA6I_iff a b).2 h), if_pos h]
  · rw [if_false' (Bool.eq_false_iff.2 fun e => h ((eqA6I_iff a b).1 e)), if_neg h, bind_of (within_eq a b)]
    rcases bdich (withinF a b) with h1 | h1
    · rw [if_true' h1, if_true' h1]
    · rw [if_false' h1, if_false' h1, bind_of (within_eq b a)]
      rcases bdich (withinF b a) with h2 | h2
      · rw [if_true' h2, if_true' h2]
      · rw [if_false' h2, if_false' h2]

/-! ### Stamps -/
abbrev upI (p : Int) (x : Int) : Int := inc1 x
abbrev stampsO (h : List EV) : List Int := gout (0 : Int) mxI upI h
def stampsF (h : List EV) : List Int × Int := if (chkF h != (0 : Int)) = true then ([], chkF h) else (stampsO h, 0)
theorem stamps_eq (h : List EV) : stamp_Stamps h = some (stampsF h) := by
  simp only [stamp_Stamps, stampsF]
  rw [bind_of (check_eq h)]
  rcases bdich (chkF h != (0 : Int)) with hc | hc
  · rw [if_true' hc, if_true' hc]
  rw [if_false' hc, if_false' hc]
  have hg : Good h := good_of (by simpa using hc)
  simp only [letO_def]
  refine bind_of (loop_from (fun k => ((grun (0 : Int) mxI upI h k).1, (grun (0 : Int) mxI upI h k).2.1, (grun (0 : Int) mxI upI h k).2.2, (k : Int))) h.length (by rfl) (fun k hk => ?_) ?_)
  · have I := runI (z := (0 : Int)) (mx := mxI) (up := upI) h hg k (by omega)
    obtain ⟨g1, g2, g3, g4⟩ := hg.ev k hk
    have hl := hg.len
    dsimp only
    rw [grun_succ _ _ _ h k hk]
    generalize grun (0 : Int) mxI upI h k = S at I
    generalize he : h.getD k dE = e
    rw [evp, he] at g1 g2
    rw [evm, he] at g3 g4
    have l3 := I.l3
    unfold stamp_Stamps_L1
    have h1 : 0 ≤ (k : Int) ∧ (k : Int) < (h.length : Int) := by omega
    have hck : 0 ≤ e.2.2.1 ∧ e.2.2.1 < 30 := ⟨g3, g4⟩
    have hckp : 0 ≤ e.1 ∧ e.1 < 6 := ⟨g1, g2⟩
    rw [if_true' (dec_t h1.2), ck_in h1, letO_def, Int.toNat_natCast, he, ck_in hckp]
    have hsm : ∀ x : Int, (S.2.2.length : Int) + ((([x] : List Int).length : Nat) : Int) ≤ maxL := fun x => le_maxL (by simp [l3]; omega)
    simp only [ck, if_pos hck, stamp_Stamps_J2, stamp_Stamps_J3, letO_def, gstep, inc64 (show k < 1000000000000 by omega), hsm, if_true]
    rcases bdich (e.2.1 == (3 : Int)) with h3 | h3 <;> rcases bdich (e.2.1 == (2 : Int)) with h2 | h2 <;> simp only [h3, h2, if_true, if_false, Bool.false_eq_true] <;> rfl
  · dsimp only
    unfold stamp_Stamps_L1
    rw [if_false' (dec_f (by omega))]
    rfl

/-! ### Vectors -/
abbrev upV (p : Int) (x : List Int) : List Int := x.set p.toNat (inc1 (x.getD p.toNat (0 : Int)))
abbrev vectorsO (h : List EV) : List (List Int) := gout z6 maxV upV h
def vectorsF (h : List EV) : List (List Int) × Int := if (chkF h != (0 : Int)) = true then ([], chkF h) else (vectorsO h, 0)
theorem vectors_eq (h : List EV) : vect_Vectors h = some (vectorsF h) := by
  simp only [vect_Vectors, vectorsF]
  rw [bind_of (check_eq h)]
  rcases bdich (chkF h != (0 : Int)) with hc | hc
  · rw [if_true' hc, if_true' hc]
  rw [if_false' hc, if_false' hc]
  have hg : Good h := good_of (by simpa using hc)
  simp only [letO_def]
  refine bind_of (loop_from (fun k => ((grun z6 maxV upV h k).1, (grun z6 maxV upV h k).2.1, (grun z6 maxV upV h k).2.2, (k : Int))) h.length (by rfl) (fun k hk => ?_) ?_)
  · have I := runI (z := z6) (mx := maxV) (up := upV) h hg k (by omega)
    obtain ⟨g1, g2, g3, g4⟩ := hg.ev k hk
    have hl := hg.len
    dsimp only
    rw [grun_succ _ _ _ h k hk]
    generalize grun z6 maxV upV h k = S at I
    generalize he : h.getD k dE = e
    rw [evp, he] at g1 g2
    rw [evm, he] at g3 g4
    have l3 := I.l3
    unfold vect_Vectors_L1
    have h1 : 0 ≤ (k : Int) ∧ (k : Int) < (h.length : Int) := by omega
    have hck : 0 ≤ e.2.2.1 ∧ e.2.2.1 < 30 := ⟨g3, g4⟩
    have hckp : 0 ≤ e.1 ∧ e.1 < 6 := ⟨g1, g2⟩
    rw [if_true' (dec_t h1.2), ck_in h1, letO_def, Int.toNat_natCast, he, ck_in hckp]
    have hsm : ∀ x : List Int, (S.2.2.length : Int) + ((([x] : List (List Int)).length : Nat) : Int) ≤ maxL := fun x => le_maxL (by simp [l3]; omega)
    simp only [ck, if_pos hck, if_pos hckp, max_eq, Option.bind_some, vect_Vectors_J2, vect_Vectors_J3, letO_def, gstep, inc64 (show k < 1000000000000 by omega), hsm, if_true]
    rcases bdich (e.2.1 == (3 : Int)) with h3 | h3 <;> rcases bdich (e.2.1 == (2 : Int)) with h2 | h2 <;> simp only [h3, h2, if_true, if_false, Bool.false_eq_true] <;> rfl
  · dsimp only
    unfold vect_Vectors_L1
    rw [if_false' (dec_f (by omega))]
    rfl
end Go.Proofs.Ytdahfpfkjljojaa.Vc
