/- Rings: Check, Round. -/
import Derived.Test.YtiddimfepemohaaSum1
import Derived.Test.YtiddimfepemohaaRgDefs
open Go Go.Proofs.Ytiddimfepemohaa.Sy Go.Proofs.Ytiddimfepemohaa.Pu
set_option linter.unusedVariables false
set_option linter.unusedSimpArgs false
namespace Go.Proofs.Ytiddimfepemohaa.Rg
theorem cont_eq (l : List Int) (x : Int) (hl : l.length < 1000000000) : slices_Contains_Lint_int l x = some (decide (x ∈ l)) := by
  unfold slices_Contains_Lint_int
  have hst : ∀ k : Nat, k < l.length → slices_Index_Lint_int_L1 l x (l.length : Int) (k : Int) = if x = l.getD k 0 then some (.inr (.inr (k : Int))) else some (.inl ((k + 1 : Nat) : Int)) := by
    intro k hk
    unfold slices_Index_Lint_int_L1
    rw [if_true' (dec_t (by omega)), ck_in (by omega), inc64 (by omega), Int.toNat_natCast]
    by_cases e : x = l.getD k 0
    · rw [if_pos e, if_true' (by simpa using e)]
    · rw [if_neg e, if_false' (by simpa using e)]
  by_cases hm : x ∈ l
  · obtain ⟨i, hi, he⟩ := (mem_getD (d := (0 : Int))).1 hm
    have : ∃ z, slices_Index_Lint_int l x = some z ∧ 0 ≤ z := by
      simp only [slices_Index_Lint_int, letO_def]
      obtain ⟨z, h1, h2⟩ := loop_countE (B := fun y : Int => slices_Index_Lint_int_L1 l x (l.length : Int) y) (fun k y => y = (k : Int) ∧ ∃ j, k ≤ j ∧ j < l.length ∧ x = l.getD j 0) l.length (fun z => ∃ w : Int, z = .inr w ∧ 0 ≤ w) (x := (0 : Int)) ⟨rfl, i, by omega, hi, he.symm⟩ (by
          rintro k y hk ⟨rfl, j, j1, j2, j3⟩
          rw [hst k hk]
          by_cases ek : x = l.getD k 0
          · rw [if_pos ek]
            exact .inr ⟨_, rfl, _, rfl, by omega⟩
          · rw [if_neg ek]
            refine .inl ⟨_, rfl, rfl, j, ?_, j2, j3⟩
            by_cases ejk : j = k
            · subst ejk; exact absurd j3 ek
            · omega) (by
          rintro y ⟨rfl, j, j1, j2, j3⟩
          omega)
      obtain ⟨w, rfl, hw⟩ := h2
      exact ⟨w, bindE_inr h1, hw⟩
    obtain ⟨z, h1, h2⟩ := this
    rw [bind_of h1, dec_t hm]
    simp [h2]
  · have : slices_Index_Lint_int l x = some (-1) := by
      simp only [slices_Index_Lint_int, letO_def]
      refine (bindE_inl (y := ()) (loop_from (fun k => (k : Int)) l.length rfl (fun k hk => ?_) ?_))
      · rw [hst k hk, if_neg (fun e => hm (by rw [e, getD_lt hk]; exact List.getElem_mem hk))]
      · unfold slices_Index_Lint_int_L1
        rw [if_false' (dec_f (by omega))]
    rw [bind_of this, dec_f hm]
    rfl
/-- A ring that is allowed. -/
structure Ring (l : List Int) : Prop where
  len1 : 1 ≤ l.length
  len2 : l.length ≤ 30
  rng : ∀ i, i < l.length → 0 ≤ l.getD i 0 ∧ l.getD i 0 ≤ 16777215
  dis : ∀ i j, i < j → j < l.length → l.getD i 0 ≠ l.getD j 0
theorem chk_at {l : List Int} (h2 : l.length ≤ 30) {k : Nat} (hk : k < l.length) : (ring_Check_L1 l (l.length : Int) (k : Int) = some (.inl ((k + 1 : Nat) : Int)) ∧ (0 ≤ l.getD k 0 ∧ l.getD k 0 ≤ 16777215) ∧ ∀ i, i < k → l.getD i 0 ≠ l.getD k 0) ∨
    (∃ c : Int, ring_Check_L1 l (l.length : Int) (k : Int) = some (.inr (.inr c)) ∧ c ≠ 0 ∧ ¬ ((0 ≤ l.getD k 0 ∧ l.getD k 0 ≤ 16777215) ∧ ∀ i, i < k → l.getD i 0 ≠ l.getD k 0)) := by
  unfold ring_Check_L1
  rw [if_true' (dec_t (by omega)), ck_in (by omega), letO_def]
  simp only [Int.toNat_natCast]
  by_cases h1 : 0 ≤ l.getD k 0 ∧ l.getD k 0 ≤ 16777215
  · rw [if_false' (by rw [Bool.or_eq_false_iff]; exact ⟨dec_f (by omega), dec_f (by omega)⟩), ck_in (by omega), bind_of (cont_eq _ _ (by simp; omega)), List.drop_zero, inc64 (by omega)]
    have hm : l.getD k 0 ∈ l.take k ↔ ∃ i, i < k ∧ l.getD i 0 = l.getD k 0 := by
      rw [mem_getD (d := (0 : Int))]
      constructor
      · rintro ⟨i, h1, h2⟩
        have hik : i < k := by simp at h1; omega
        exact ⟨i, hik, by rw [← h2, getD_take hik]⟩
      · rintro ⟨i, h1, h2⟩
        exact ⟨i, by simp; omega, by rw [getD_take h1, h2]⟩
    by_cases h3 : l.getD k 0 ∈ l.take k
    · rw [dec_t h3]
      right
      obtain ⟨i, i1, i2⟩ := hm.1 h3
      exact ⟨4, rfl, by decide, fun hh => hh.2 i i1 i2⟩
    · rw [dec_f h3]
      left
      exact ⟨rfl, h1, fun i hi he => h3 (hm.2 ⟨i, hi, he⟩)⟩
  · right
    rw [if_true' (by rw [Bool.or_eq_true]; by_cases h : l.getD k 0 < 0; exact .inl (dec_t h); exact .inr (dec_t (by omega)))]
    exact ⟨1, rfl, by decide, fun hh => h1 hh.1⟩
theorem chk_ok {l : List Int} (h : Ring l) : ring_Check l = some 0 := by
  have h1 := h.len1
  have h2 := h.len2
  unfold ring_Check
  rw [if_false' (by rw [Bool.or_eq_false_iff]; exact ⟨dec_f (by omega), dec_f (by omega)⟩), letO_def]
  refine (bindE_inl (y := ()) (loop_from (fun k => (k : Int)) l.length rfl (fun k hk => ?_) ?_))
  · rcases chk_at h2 hk with ⟨e, _⟩ | ⟨c, _, _, hn⟩
    · exact e
    · exact absurd ⟨h.rng k hk, fun i hi => h.dis i k hi hk⟩ hn
  · unfold ring_Check_L1
    rw [if_false' (dec_f (by omega))]
theorem chk_no {l : List Int} (h : ¬ Ring l) : ∃ c, ring_Check l = some c ∧ c ≠ 0 := by
  unfold ring_Check
  by_cases hl : 1 ≤ l.length ∧ l.length ≤ 30
  · rw [if_false' (by rw [Bool.or_eq_false_iff]; exact ⟨dec_f (by omega), dec_f (by omega)⟩), letO_def]
    obtain ⟨z, z1, c, rfl, hc⟩ := loop_countE (B := fun x : Int => ring_Check_L1 l (l.length : Int) x) (fun k y => y = (k : Int) ∧ ∀ j, j < k → (0 ≤ l.getD j 0 ∧ l.getD j 0 ≤ 16777215) ∧ ∀ i, i < j → l.getD i 0 ≠ l.getD j 0) l.length (fun z => ∃ c : Int, z = .inr c ∧ c ≠ 0) (x := (0 : Int)) ⟨rfl, fun j hj => by omega⟩ (by
      rintro k y hk ⟨rfl, hj⟩
      rcases chk_at hl.2 hk with ⟨e, e2⟩ | ⟨c, e, hc, _⟩
      · refine .inl ⟨_, e, rfl, fun j hj2 => ?_⟩
        by_cases ejk : j = k
        · rw [ejk]; exact e2
        · exact hj j (by omega)
      · exact .inr ⟨_, e, c, rfl, hc⟩) (by
      rintro y ⟨rfl, hj⟩
      exact absurd ⟨hl.1, hl.2, fun i hi => (hj i hi).1, fun i j hij hjl => (hj j hjl).2 i hij⟩ h)
    exact ⟨c, bindE_inr z1, hc⟩
  · rw [if_true' (by rw [Bool.or_eq_true]; by_cases h : l.length < 1; exact .inl (dec_t (by omega)); exact .inr (dec_t (by omega)))]
    exact ⟨1, rfl, by decide⟩
/-- How far the message of i goes. -/
structure Goes (l : List Int) (i d : Nat) : Prop where
  one : 1 ≤ d
  le : d ≤ l.length
  less : ∀ k, 1 ≤ k → k < d → l.getD ((i + k) % l.length) 0 ≤ l.getD i 0
  stop : d = l.length ∨ l.getD i 0 < l.getD ((i + d) % l.length) 0
theorem round_L2 {l : List Int} (h1 : 1 ≤ l.length) (h2 : l.length ≤ 30) {i : Nat} (hi : i < l.length) {s : Nat} (hs : s ≤ 10000) {lead : Int} :
    ∃ d, loopO (fun x : Int × Int => ring_Round_L2 l (l.length : Int) (i : Int) lead (l.getD i 0) x.1 x.2) ((s : Int), (1 : Int)) = some (((s + d : Nat) : Int), if d = l.length then (i : Int) else lead) ∧ Goes l i d := by
  have hat : ∀ k, 1 ≤ k → k ≤ l.length → ((i + k) % l.length = i ↔ k = l.length) := by
    intro k k1 k2
    rw [modn hi k2]
    split <;> omega
  obtain ⟨z, z1, d, rfl, z2⟩ := loop_countE (B := fun x : Int × Int => ring_Round_L2 l (l.length : Int) (i : Int) lead (l.getD i 0) x.1 x.2) (fun r x => x.1 = ((s + r : Nat) : Int) ∧ x.2 = ((r + 1 : Nat) : Int) ∧ ∀ k, 1 ≤ k → k < r + 1 → l.getD ((i + k) % l.length) 0 ≤ l.getD i 0) (l.length - 1) (fun z => ∃ d : Nat, z = (((s + d : Nat) : Int), if d = l.length then (i : Int) else lead) ∧ Goes l i d) (x := ((s : Int), (1 : Int))) ⟨rfl, rfl, fun k _ _ => by omega⟩ (by
    rintro r ⟨a, b⟩ hr ⟨e1, e2, e3⟩
    dsimp only at e1 e2
    subst e1 e2
    have hne := hat (r + 1) (by omega) (by omega)
    have hlt : (i + (r + 1)) % l.length < l.length := Nat.mod_lt _ (by omega)
    have hbe : ((((i + (r + 1)) % l.length : Nat) : Int) == (i : Int)) = false := by
      rw [beq_eq_false_iff_ne]
      intro h
      have : (i + (r + 1)) % l.length = i := by exact_mod_cast h
      omega
    unfold ring_Round_L2
    dsimp only
    rw [letO_def, ck_in (by omega), letO_def, inc64 (by omega), show arR .add .i64 (i : Int) ((r + 1 : Nat) : Int) = ((i + (r + 1) : Nat) : Int) by rw [add64 (by omega) (by omega)]; omega, rem_nat, if_false' hbe, ck_in (by omega), Int.toNat_natCast]
    by_cases hg : l.getD ((i + (r + 1)) % l.length) 0 > l.getD i 0
    · right
      rw [if_true' (dec_t hg)]
      refine ⟨_, rfl, r + 1, ?_, ⟨by omega, by omega, e3, .inr hg⟩⟩
      rw [if_neg (by omega)]
      rfl
    · left
      rw [if_false' (dec_f hg), inc64 (by omega)]
      refine ⟨_, rfl, rfl, rfl, fun k k1 k2 => ?_⟩
      by_cases e : k = r + 1
      · rw [e]; omega
      · exact e3 k k1 (by omega)) (by
    rintro ⟨a, b⟩ ⟨e1, e2, e3⟩
    dsimp only at e1 e2
    subst e1 e2
    have hne := (hat (l.length - 1 + 1) (by omega) (by omega)).2 (by omega)
    unfold ring_Round_L2
    dsimp only
    rw [letO_def, ck_in (by omega), letO_def, inc64 (by omega), show arR .add .i64 (i : Int) ((l.length - 1 + 1 : Nat) : Int) = ((i + (l.length - 1 + 1) : Nat) : Int) by rw [add64 (by omega) (by omega)]; omega, rem_nat, hne, if_true' (by simp)]
    refine ⟨_, rfl, l.length, ?_, ⟨by omega, by omega, fun k k1 k2 => e3 k k1 (by omega), .inl rfl⟩⟩
    rw [if_pos rfl]
    congr 2
    omega)
  exact ⟨d, z1, z2⟩
theorem round_ok {l : List Int} (h : Ring l) : ∃ ds : Nat → Nat, ring_Round l = some (lastOf (fun i => ds i == l.length) (fun i => (i : Int)) 0 l.length, ((sumN ds l.length : Nat) : Int), 0) ∧ ∀ i, i < l.length → Goes l i (ds i) := by
  have h1 := h.len1
  have h2 := h.len2
  obtain ⟨z, z1, ds, rfl, z2⟩ := loop_count (B := fun x : Int × Int × Int => ring_Round_L1 l (l.length : Int) (l.length : Int) x.1 x.2.1 x.2.2) (fun k x => x.2.2 = (k : Int) ∧ ∃ ds : Nat → Nat, x.1 = ((sumN ds k : Nat) : Int) ∧ x.2.1 = lastOf (fun i => ds i == l.length) (fun i => (i : Int)) 0 k ∧ ∀ i, i < k → Goes l i (ds i)) l.length (fun z => ∃ ds : Nat → Nat, z = (((sumN ds l.length : Nat) : Int), lastOf (fun i => ds i == l.length) (fun i => (i : Int)) 0 l.length) ∧ ∀ i, i < l.length → Goes l i (ds i)) (x := ((0 : Int), (0 : Int), (0 : Int))) ⟨rfl, fun _ => 0, rfl, rfl, fun i hi => by omega⟩ (by
    rintro k ⟨a, b, kk⟩ hk ⟨e1, ds, e2, e3, e4⟩
    dsimp only at e1 e2 e3
    subst e1 e2
    have hb : sumN ds k ≤ k * l.length := sumN_bound fun i hi => (e4 i hi).le
    have hb2 : k * l.length ≤ 30 * 30 := Nat.mul_le_mul (by omega) h2
    obtain ⟨d, d1, d2⟩ := round_L2 h1 h2 hk (s := sumN ds k) (by omega) (lead := b)
    unfold ring_Round_L1
    dsimp only
    rw [if_true' (dec_t (by omega)), ck_in (by omega), letO_def, Int.toNat_natCast, bind_of d1, inc64 (by omega)]
    have hsm : sumN (fun i => if i = k then d else ds i) k = sumN ds k := sumN_congr fun i hi => by show (if i = k then d else ds i) = ds i; rw [if_neg (by omega)]
    refine ⟨_, rfl, rfl, fun i => if i = k then d else ds i, ?_, ?_, fun i hi => ?_⟩
    · show ((sumN ds k + d : Nat) : Int) = ((sumN (fun i => if i = k then d else ds i) k + (if k = k then d else ds k) : Nat) : Int)
      rw [hsm, if_pos rfl]
    · simp only [lastOf, if_true]
      by_cases ed : d = l.length
      · rw [if_pos ed, if_pos (by simpa using ed)]
      · rw [if_neg ed, if_neg (by simpa using ed), e3]
        refine lastOf_congr fun j hj => ⟨?_, rfl⟩
        rw [if_neg (by omega)]
    · show Goes l i (if i = k then d else ds i)
      by_cases e : i = k
      · rw [if_pos e, e]; exact d2
      · rw [if_neg e]; exact e4 i (by omega)) (by
    rintro ⟨a, b, kk⟩ ⟨e1, ds, e2, e3, e4⟩
    dsimp only at e1 e2 e3
    subst e1 e2 e3
    unfold ring_Round_L1
    dsimp only
    rw [if_false' (dec_f (by omega))]
    exact ⟨_, rfl, ds, rfl, e4⟩)
  refine ⟨ds, ?_, z2⟩
  unfold ring_Round
  rw [bind_of (chk_ok h), if_false' (by rfl), letO_def, letO_def, bind_of z1]
theorem round_no {l : List Int} (h : ¬ Ring l) : ∃ c, ring_Round l = some (0, 0, c) ∧ c ≠ 0 := by
  obtain ⟨c, h1, h2⟩ := chk_no h
  refine ⟨c, ?_, h2⟩
  unfold ring_Round
  rw [bind_of h1, if_true' (by simpa using h2)]
/-! ### How many messages -/
theorem goes_max {l : List Int} {i d : Nat} (h : Goes l i d) (hi : i < l.length) (hm : ∀ j, j < l.length → l.getD j 0 ≤ l.getD i 0) : d = l.length := by
  rcases h.stop with e | e
  · exact e
  · have := hm ((i + d) % l.length) (Nat.mod_lt _ (by omega))
    omega
theorem round_low {l : List Int} {ds : Nat → Nat} (hl : 1 ≤ l.length) (h : ∀ i, i < l.length → Goes l i (ds i)) : 2 * l.length ≤ sumN ds l.length + 1 := by
  obtain ⟨m, hm, hmax⟩ := max_at (fun j => l.getD j 0) l.length hl
  have h1 := sumN_some (f := ds) m hm fun i hi => (h i hi).one
  have h2 := goes_max (h m hm) hm hmax
  omega
theorem round_high {l : List Int} {ds : Nat → Nat} (hr : Ring l) (h : ∀ i, i < l.length → Goes l i (ds i)) : 2 * sumN ds l.length ≤ l.length * (l.length + 1) := by
  have hdis : ∀ i j, i < l.length → j < l.length → i ≠ j → l.getD i 0 ≠ l.getD j 0 := by
    intro i j hi hj hne
    rcases Nat.lt_or_gt_of_ne hne with h1 | h1
    · exact hr.dis i j h1 hj
    · exact fun e => hr.dis j i h1 hi e.symm
  have hc : ∀ i, i < l.length → ds i ≤ sumN (fun j => if l.getD j 0 < l.getD i 0 then 1 else 0) l.length + 1 := by
    intro i hi
    have g := h i hi
    rw [← sumN_rot (fun j => if l.getD j 0 < l.getD i 0 then 1 else 0) hi]
    refine Nat.le_trans ?_ (Nat.add_le_add_right (sumN_mono g.le) 1)
    have hone := g.one
    have e := sumN_split (fun k => if l.getD ((i + k) % l.length) 0 < l.getD i 0 then 1 else 0) 1 (ds i - 1)
    rw [show 1 + (ds i - 1) = ds i by omega] at e
    show ds i ≤ sumN (fun k => if l.getD ((i + k) % l.length) 0 < l.getD i 0 then 1 else 0) (ds i) + 1
    rw [e]
    have h2 : sumN (fun _ => 1) (ds i - 1) ≤ sumN (fun k => if l.getD ((i + (1 + k)) % l.length) 0 < l.getD i 0 then 1 else 0) (ds i - 1) := by
      refine sumN_le fun k hk => ?_
      show 1 ≤ if l.getD ((i + (1 + k)) % l.length) 0 < l.getD i 0 then 1 else 0
      have hle := g.less (1 + k) (by omega) (by omega)
      have hgl := g.le
      have hlt : (i + (1 + k)) % l.length < l.length := Nat.mod_lt _ (by omega)
      have hne : (i + (1 + k)) % l.length ≠ i := by
        rw [modn hi (by omega)]
        split <;> omega
      have := hdis _ _ hlt hi hne
      rw [if_pos (by omega)]
      exact Nat.le_refl _
    rw [sumN_const] at h2
    omega
  have h1 := sumN_le hc
  rw [sumN_add, sumN_const] at h1
  have h2 : 2 * sumN (fun i => sumN (fun j => if l.getD j 0 < l.getD i 0 then 1 else 0) l.length) l.length + l.length ≤ l.length * l.length := by
    have e := sumN_comm (fun i j => if l.getD j 0 < l.getD i 0 then 1 else 0) l.length l.length
    have e2 : 2 * sumN (fun i => sumN (fun j => if l.getD j 0 < l.getD i 0 then 1 else 0) l.length) l.length = sumN (fun i => sumN (fun j => (if l.getD j 0 < l.getD i 0 then 1 else 0) + (if l.getD i 0 < l.getD j 0 then 1 else 0)) l.length) l.length := by
      have e3 : sumN (fun i => sumN (fun j => (if l.getD j 0 < l.getD i 0 then 1 else 0) + (if l.getD i 0 < l.getD j 0 then 1 else 0)) l.length) l.length = sumN (fun i => sumN (fun j => if l.getD j 0 < l.getD i 0 then 1 else 0) l.length + sumN (fun j => if l.getD i 0 < l.getD j 0 then 1 else 0) l.length) l.length := sumN_congr fun i _ => sumN_add _ _ _
      rw [e3, sumN_add]
      omega
    rw [e2]
    have e4 : sumN (fun i => sumN (fun j => (if l.getD j 0 < l.getD i 0 then 1 else 0) + (if l.getD i 0 < l.getD j 0 then 1 else 0)) l.length + 1) l.length ≤ l.length * l.length := by
      refine sumN_bound fun i hi => ?_
      refine sumN_miss i hi (fun j hj => ?_) ?_
      · show (if l.getD j 0 < l.getD i 0 then 1 else 0) + (if l.getD i 0 < l.getD j 0 then 1 else 0) ≤ 1
        split <;> split <;> omega
      · show (if l.getD i 0 < l.getD i 0 then 1 else 0) + (if l.getD i 0 < l.getD i 0 then 1 else 0) = 0
        rw [if_neg (by omega)]
    rw [sumN_add, sumN_const] at e4
    omega
  rw [Nat.mul_succ]
  omega
end Go.Proofs.Ytiddimfepemohaa.Rg
