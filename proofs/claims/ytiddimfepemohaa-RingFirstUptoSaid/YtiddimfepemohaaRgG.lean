/- Rings: the laws of order, and of who is first. -/
import Derived.Test.YtiddimfepemohaaRgF
open Go Go.Proofs.Ytiddimfepemohaa.Sy Go.Proofs.Ytiddimfepemohaa.Pu
set_option linter.unusedVariables false
set_option linter.unusedSimpArgs false
namespace Go.Proofs.Ytiddimfepemohaa.Rg
theorem goes_iff {l : List Int} (hr : Ring l) {i d : Nat} (hi : i < l.length) (h : Goes l i d) : d = l.length ↔ IsMax l i := by
  constructor
  · rintro rfl
    refine ⟨hi, fun j hj => ?_⟩
    by_cases e : j = i
    · rw [e]; exact Int.le_refl _
    · have := h.less ((j + l.length - i) % l.length) (by
        refine Nat.pos_of_ne_zero fun h0 => e ?_
        by_cases hji : i ≤ j
        · rw [show j + l.length - i = (j - i) + l.length by omega, Nat.add_mod_right, Nat.mod_eq_of_lt (by omega)] at h0
          omega
        · rw [Nat.mod_eq_of_lt (by omega)] at h0
          omega) (Nat.mod_lt _ (by omega))
      have e2 : (i + (j + l.length - i) % l.length) % l.length = j := by
        rw [Nat.add_mod_mod, show i + (j + l.length - i) = j + l.length by omega, Nat.add_mod_right, Nat.mod_eq_of_lt hj]
      rw [e2] at this
      exact this
  · intro hm
    exact goes_max h hi hm.2
theorem round_max {l : List Int} (hr : Ring l) : ∃ p s : Nat, ring_Round l = some ((p : Int), (s : Int), 0) ∧ IsMax l p := by
  obtain ⟨ds, d1, d2⟩ := round_ok hr
  obtain ⟨m, hm, hmax⟩ := max_at (fun j => l.getD j 0) l.length hr.len1
  rcases lastOf_cases (fun i => ds i == l.length) (fun i => (i : Int)) 0 l.length with ⟨_, h2⟩ | ⟨j, h1, h2, h3, h4⟩
  · have := h2 m hm
    rw [beq_eq_false_iff_ne] at this
    exact absurd ((goes_iff hr hm (d2 m hm)).2 ⟨hm, hmax⟩) this
  · rw [h3] at d1
    rw [beq_iff_eq] at h2
    exact ⟨j, _, d1, (goes_iff hr h1 (d2 j h1)).1 h2⟩
theorem order_law (l : List Int) (hl : l.length ≤ 4294967296) : RingOrder l = some true := by
  unfold RingOrder
  obtain ⟨ds, d1, d2⟩ := round_ok two12
  have e0 : ring_Round [(1 : Int), (2 : Int)] = some (1, 3, 0) := by
    have g0 := d2 0 (by decide)
    have g1 := d2 1 (by decide)
    have m1 : IsMax [(1 : Int), (2 : Int)] 1 := ⟨by decide, fun j hj => by
      have : j < 2 := hj
      rcases (by omega : j = 0 ∨ j = 1) with rfl | rfl <;> decide⟩
    have a1 : ds 1 = 2 := (goes_iff two12 (by decide) g1).2 m1
    have a0 : ds 0 = 1 := by
      have h1 := g0.one
      have h2 : ds 0 ≤ 2 := g0.le
      have h3 : ds 0 ≠ 2 := fun e => by
        have := ((goes_iff two12 (by decide) g0).1 e).2 1 (by decide)
        exact absurd this (by decide)
      omega
    rw [d1]
    show some (lastOf (fun i => ds i == 2) (fun i => (i : Int)) 0 2, ((sumN ds 2 : Nat) : Int), (0 : Int)) = _
    simp [lastOf, sumN, a0, a1]
  rw [bind_of e0, if_false' (by rfl), letO_def]
  obtain ⟨z, z1, z2⟩ := loop_countE (B := fun x : List Int × Int => RingOrder_L1 l (l.length : Int) x.1 x.2) (fun k x => x.2 = (k : Int) ∧ x.1 = dbl (l.take k) ∧ ∀ i, i < k → 0 ≤ l.getD i 0 ∧ l.getD i 0 ≤ 1000000) l.length (fun z => (z = .inl (dbl l) ∧ ∀ i, i < l.length → 0 ≤ l.getD i 0 ∧ l.getD i 0 ≤ 1000000) ∨ z = .inr true) (x := (([] : List Int), (0 : Int))) ⟨rfl, rfl, fun i hi => by omega⟩ (by
    rintro k ⟨m, kk⟩ hk ⟨e1, e2, e3⟩
    dsimp only at e1 e2
    subst e1 e2
    unfold RingOrder_L1
    dsimp only
    rw [if_true' (dec_t (by omega)), ck_in (by omega), letO_def, Int.toNat_natCast]
    by_cases h : 0 ≤ l.getD k 0 ∧ l.getD k 0 ≤ 1000000
    · rw [if_false' (by rw [Bool.or_eq_false_iff]; exact ⟨dec_f (by omega), dec_f (by omega)⟩), ck_in (by
        rw [dbl_len, List.length_take]
        unfold maxL
        simp only [List.length_cons, List.length_nil]
        omega), letO_def, inc64 (by omega), mul64 (by omega) (by omega), add64 (by omega) (by omega)]
      refine .inl ⟨_, rfl, rfl, ?_, fun i hi => ?_⟩
      · dsimp only
        unfold dbl
        rw [List.take_add_one, List.getElem?_eq_getElem hk, List.map_append, getD_lt hk]
        rfl
      · by_cases e : i = k
        · rw [e]; exact h
        · exact e3 i (by omega)
    · rw [if_true' (by
        rw [Bool.or_eq_true]
        by_cases h0 : l.getD k 0 < 0
        · exact .inl (dec_t h0)
        · exact .inr (dec_t (by omega)))]
      exact .inr ⟨_, rfl, .inr rfl⟩) (by
    rintro ⟨m, kk⟩ ⟨e1, e2, e3⟩
    dsimp only at e1 e2
    subst e1 e2
    unfold RingOrder_L1
    dsimp only
    rw [if_false' (dec_f (by omega))]
    exact ⟨_, rfl, .inl ⟨by rw [List.take_length], e3⟩⟩)
  rcases z2 with ⟨rfl, hb⟩ | rfl
  · have hb' : ∀ x ∈ l, 0 ≤ x ∧ x ≤ 1000000 := fun x hx => by
      obtain ⟨i, hi, rfl⟩ := (mem_getD (d := 0)).1 hx
      exact hb i hi
    rw [bindE_inl z1, round_dbl hb', halves_dbl hb']
    obtain ⟨r, r1⟩ : ∃ r, ring_Round l = some r := by
      by_cases hr : Ring l
      · obtain ⟨ds, d1, _⟩ := round_ok hr
        exact ⟨_, d1⟩
      · obtain ⟨c, _, c1, _⟩ := halves_no hr
        exact ⟨_, c1⟩
    obtain ⟨s, s1⟩ : ∃ s, ring_Halves l = some s := by
      by_cases hr : Ring l
      · obtain ⟨R, q1, q2, _⟩ := logs l.length (Nat.le_trans hr.len2 (by decide))
        obtain ⟨p, t, f1, _⟩ := halves_ok hr q1 q2
        exact ⟨_, f1⟩
      · obtain ⟨c, _, _, c1, _⟩ := halves_no hr
        exact ⟨_, c1⟩
    rw [bind_of r1, bind_of r1, bind_of s1, bind_of s1]
    simp
  · rw [bindE_inr z1]
theorem max_ok {l : List Int} (h1 : 1 ≤ l.length) (h2 : l.length ≤ 1000000) : ∃ m, slices_Max_Lint_int l = some m ∧ ∀ p, IsMax l p → m = l.getD p 0 := by
  obtain ⟨m, m1, m2⟩ := loop_count (B := fun x : Int × Int => slices_Max_Lint_int_L1 l x.1 x.2) (fun k x => x.2 = ((k + 1 : Nat) : Int) ∧ k + 1 ≤ l.length ∧ (∀ j, j ≤ k → l.getD j 0 ≤ x.1) ∧ ∃ j, j ≤ k ∧ x.1 = l.getD j 0) (l.length - 1) (fun m => (∀ j, j < l.length → l.getD j 0 ≤ m) ∧ ∃ j, j < l.length ∧ m = l.getD j 0) (x := (l.getD 0 0, (1 : Int))) ⟨rfl, by omega, fun j hj => by rw [show j = 0 by omega]; exact Int.le_refl _, 0, Nat.le_refl _, rfl⟩ (by
    rintro k ⟨m, kk⟩ hk ⟨e1, e2, e3, j0, e4, e5⟩
    dsimp only at e1 e2 e3 e5
    subst e1
    unfold slices_Max_Lint_int_L1
    dsimp only
    rw [if_true' (dec_t (by omega)), ck_in (by omega), letO_def, Int.toNat_natCast, inc64 (by omega)]
    have hc := mxI_cases m (l.getD (k + 1) 0)
    refine ⟨_, rfl, rfl, by omega, fun j hj => ?_, ?_⟩
    · dsimp only
      by_cases e : j = k + 1
      · rw [e]; exact hc.1.2
      · exact Int.le_trans (e3 j (by omega)) hc.1.1
    · dsimp only
      rcases hc.2 with e | e
      · exact ⟨j0, by omega, by rw [e, e5]⟩
      · exact ⟨k + 1, Nat.le_refl _, e⟩) (by
    rintro ⟨m, kk⟩ ⟨e1, e2, e3, j0, e4, e5⟩
    dsimp only at e1 e2 e3 e5
    subst e1
    unfold slices_Max_Lint_int_L1
    dsimp only
    rw [if_false' (dec_f (by omega))]
    exact ⟨_, rfl, fun j hj => e3 j (by omega), j0, by omega, e5⟩)
  refine ⟨m, ?_, fun p hp => ?_⟩
  · unfold slices_Max_Lint_int
    rw [if_false' (dec_f (by omega)), ck_in (by omega), letO_def, bind_of m1]
  · obtain ⟨j, j1, j2⟩ := m2.2
    have a := m2.1 p hp.1
    have b := hp.2 j j1
    omega
theorem three294 : Ring [(2 : Int), (9 : Int), (4 : Int)] := by
  refine ⟨by decide, by decide, fun i hi => ?_, fun i j h1 h2 => ?_⟩
  · have : i < 3 := hi
    rcases (by omega : i = 0 ∨ i = 1 ∨ i = 2) with rfl | rfl | rfl <;> decide
  · have : j < 3 := h2
    rcases (by omega : (i = 0 ∧ j = 1) ∨ (i = 0 ∧ j = 2) ∨ (i = 1 ∧ j = 2)) with ⟨rfl, rfl⟩ | ⟨rfl, rfl⟩ | ⟨rfl, rfl⟩ <;> decide
theorem first_law (l : List Int) : RingFirst l = some true := by
  unfold RingFirst
  obtain ⟨ds, d1, d2⟩ := round_ok three294
  have e0 : ring_Round [(2 : Int), (9 : Int), (4 : Int)] = some (1, 6, 0) := by
    have g0 := d2 0 (by decide)
    have g1 := d2 1 (by decide)
    have g2 := d2 2 (by decide)
    have m1 : IsMax [(2 : Int), (9 : Int), (4 : Int)] 1 := ⟨by decide, fun j hj => by
      have : j < 3 := hj
      rcases (by omega : j = 0 ∨ j = 1 ∨ j = 2) with rfl | rfl | rfl <;> decide⟩
    have a1 : ds 1 = 3 := (goes_iff three294 (by decide) g1).2 m1
    have a0 : ds 0 = 1 := by
      have h1 := g0.one
      refine Classical.byContradiction fun hn => ?_
      exact absurd (g0.less 1 (by omega) (by omega)) (by decide)
    have a2 : ds 2 = 2 := by
      have h1 := g2.one
      have h2 : ds 2 ≤ 3 := g2.le
      have h3 : ds 2 ≠ 3 := fun e => by
        have := ((goes_iff three294 (by decide) g2).1 e).2 1 (by decide)
        exact absurd this (by decide)
      have h4 : ds 2 ≠ 1 := fun e => by
        rcases g2.stop with h | h
        · rw [e] at h; exact absurd h (by decide)
        · rw [e] at h; exact absurd h (by decide)
      omega
    rw [d1]
    show some (lastOf (fun i => ds i == 3) (fun i => (i : Int)) 0 3, ((sumN ds 3 : Nat) : Int), (0 : Int)) = _
    simp [lastOf, sumN, a0, a1, a2]
  rw [bind_of e0, if_false' (by rfl)]
  by_cases hr : Ring l
  · obtain ⟨p, s, p1, p2⟩ := round_max hr
    obtain ⟨R, q1, q2, _⟩ := logs l.length (Nat.le_trans hr.len2 (by decide))
    obtain ⟨q, t, f1, f2, _⟩ := halves_ok hr q1 q2
    have e := max_unique hr p2 f2
    subst e
    have hp := p2.1
    have h2 := hr.len2
    obtain ⟨m, m1, m2⟩ := max_ok hr.len1 (by omega)
    rw [bind_of p1, bind_of f1, if_false' (by rfl)]
    dsimp only
    rw [ck_in (by intro _; omega), m1, letO_def, ck_in (by intro _; rfl), Int.toNat_natCast, dec_t (by omega), dec_t (by omega)]
    simp only [Option.getD_some]
    rw [m2 p p2]
    simp
  · obtain ⟨c, _, c1, c2, c3⟩ := halves_no hr
    rw [bind_of c1, bind_of c2, if_true' (by rw [Bool.or_eq_true]; left; rw [bne_iff_ne]; exact c3)]
    simp
end Go.Proofs.Ytiddimfepemohaa.Rg
