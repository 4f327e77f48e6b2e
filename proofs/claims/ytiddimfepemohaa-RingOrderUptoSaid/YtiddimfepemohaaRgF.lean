/- Rings: who is first by halves, and how many messages that takes. -/
import Derived.Test.YtiddimfepemohaaRgE
import Derived.Test.YtiddimfepemohaaRgB
import Derived.Test.YtiddimfepemohaaPure3
open Go Go.Proofs.Ytiddimfepemohaa.Sy Go.Proofs.Ytiddimfepemohaa.Pu
set_option linter.unusedVariables false
set_option linter.unusedSimpArgs false
namespace Go.Proofs.Ytiddimfepemohaa.Rg
structure HI (l : List Int) (R r : Nat) (js : List Nat) (s : Nat) : Prop where
  le : r ≤ R
  srt : js.Pairwise (· < ·)
  lt : ∀ x ∈ js, x < l.length
  mx : ∃ i ∈ js, IsMax l i
  zero : r = 0 → js.length = l.length ∧ s = 0
  more : 1 ≤ r → js.length * 2 ^ (r - 1) ≤ l.length ∧ 2 * l.length ≤ s ∧ s ≤ 4 * l.length + 8 * l.length * (r - 1)
theorem halves_ok {l : List Int} (hr : Ring l) {R : Nat} (hR : l.length ≤ 2 ^ R) (hR2 : ∀ d, d < R → 2 ^ d < l.length) : ∃ p s : Nat, ring_Halves l = some ((p : Int), (s : Int), 0) ∧ IsMax l p ∧ 2 * l.length ≤ s ∧ s ≤ 4 * l.length + 8 * l.length * R := by
  have h1 := hr.len1
  have h2 := hr.len2
  have hR5 : R ≤ 5 := by
    refine Classical.byContradiction fun hn => ?_
    have := hR2 5 (by omega)
    have e : 2 ^ 5 = 32 := rfl
    omega
  have hp : ∀ r, r ≤ R → 2 ^ r ≤ 32 := fun r h => Nat.le_trans (Nat.pow_le_pow_right (by decide) (show r ≤ 5 by omega)) (by decide)
  obtain ⟨m, hm, hmax⟩ := max_at (fun j => l.getD j 0) l.length h1
  obtain ⟨z, z1, z2⟩ := loop_meas (B := fun x : Int × List Int × Int => ring_Halves_L2 l (l.length : Int) x.1 x.2.1 x.2.2) (fun x => ∃ (r : Nat) (js : List Nat) (s : Nat), x = ((s : Int), toI js, ((2 ^ r : Nat) : Int)) ∧ HI l R r js s) (fun x => 40 - x.2.2.toNat) (fun z => ∃ p s : Nat, z = ((p : Int), (s : Int), 0) ∧ IsMax l p ∧ 2 * l.length ≤ s ∧ s ≤ 4 * l.length + 8 * l.length * R) (by
    rintro x ⟨r, js, s, rfl, H⟩
    have hjl : js.length ≤ l.length := by
      have hnd : js.Nodup := H.srt.imp fun h => by omega
      have := hnd.length_le_of_subset (l₂ := List.range l.length) (fun x hx => List.mem_range.2 (H.lt x hx))
      simpa using this
    have hs : s ≤ 100000 := by
      by_cases h0 : r = 0
      · rw [(H.zero h0).2]; omega
      · have a := (H.more (by omega)).2.2
        have b : 8 * l.length * (r - 1) ≤ 8 * 30 * 5 := Nat.mul_le_mul (by omega) (by have := H.le; omega)
        omega
    have hf1 : 1 ≤ 2 ^ r := Nat.one_le_two_pow
    have hf2 := hp r H.le
    obtain ⟨y, y1, y2⟩ := phase hr (f := 2 ^ r) hf1 (by omega) H.lt (by omega) hs
    have htl : (toI js).length = js.length := by simp
    have hsum : s + 4 * 2 ^ r * js.length ≤ 4 * l.length + 8 * l.length * r := by
      by_cases h0 : r = 0
      · obtain ⟨a, b⟩ := H.zero h0
        rw [h0, a, b]
        omega
      · obtain ⟨a, b, c⟩ := H.more (by omega)
        obtain ⟨q, rfl⟩ : ∃ q, r = q + 1 := ⟨r - 1, by omega⟩
        rw [Nat.add_sub_cancel] at a c
        have e1 : 4 * 2 ^ (q + 1) * js.length = 8 * (js.length * 2 ^ q) := by rw [Nat.pow_succ, Nat.mul_comm js.length]; rw [show 4 * (2 ^ q * 2) = 8 * 2 ^ q by omega, Nat.mul_assoc]
        have e2 : 8 * l.length * (q + 1) = 8 * l.length * q + 8 * l.length := Nat.mul_succ _ _
        rw [e1, e2]
        omega
    unfold ring_Halves_L2
    dsimp only
    rw [letO_def, htl]
    rcases y2 with ⟨s', ks, rfl, k1, k2, k3, k4, k5, k6⟩ | ⟨s', i, rfl, i1, i2, i3, i4, i5⟩
    · have hfn : 2 ^ r < l.length := by
        refine Classical.byContradiction fun hn => ?_
        obtain ⟨i, i1, i2⟩ := H.mx
        exact k6 (by omega) i i1 (max_win i2)
      have hrR : r < R := by
        refine Classical.byContradiction fun hn => ?_
        have : R = r := by have := H.le; omega
        rw [this] at hR
        omega
      have hsk : ks.Pairwise (· < ·) := H.srt.sublist k1
      have hlk : ∀ x ∈ ks, x < l.length := fun x hx => H.lt x (k1.subset hx)
      have hcnt := win_count hr hfn hsk hlk k2
      rw [bindE_inl y1, mul64 (by omega) (by omega)]
      have h3 := hp (r + 1) (by omega)
      have hps : 2 ^ (r + 1) = 2 ^ r * 2 := Nat.pow_succ ..
      refine .inl ⟨_, rfl, ⟨r + 1, ks, s', ?_, ⟨hrR, hsk, hlk, ?_, fun h => by omega, fun _ => ⟨by rw [Nat.add_sub_cancel]; exact hcnt, ?_, ?_⟩⟩⟩, ?_⟩
      · rw [hps]
        push_cast
        rfl
      · obtain ⟨i, i1, i2⟩ := H.mx
        exact ⟨i, k3 i i1 (max_win i2), i2⟩
      · by_cases h0 : r = 0
        · have := (H.zero h0).1; omega
        · have := (H.more (by omega)).2.1; omega
      · rw [Nat.add_sub_cancel]; omega
      · show 40 - (((2 ^ r : Nat) : Int) * 2).toNat < 40 - ((2 ^ r : Nat) : Int).toNat
        omega
    · rw [bindE_inr y1]
      refine .inr ⟨_, rfl, i, s', rfl, win_max (H.lt i i2) i1 i3, ?_, ?_⟩
      · by_cases h0 : r = 0
        · rw [h0] at i1
          have e : 2 ^ 0 = 1 := rfl
          omega
        · have := (H.more (by omega)).2.1; omega
      · have : 8 * l.length * r ≤ 8 * l.length * R := Nat.mul_le_mul_left _ H.le
        omega) _ ((0 : Int), toI (List.range l.length), (1 : Int)) rfl ⟨0, List.range l.length, 0, rfl, ⟨by omega, List.pairwise_lt_range, fun x hx => List.mem_range.1 hx, ⟨m, List.mem_range.2 hm, hm, hmax⟩, fun _ => ⟨by simp, rfl⟩, fun h => by omega⟩⟩
  obtain ⟨p, s, rfl, q1, q2, q3⟩ := z2
  refine ⟨p, s, ?_, q1, q2, q3⟩
  unfold ring_Halves
  rw [bind_of (chk_ok hr), if_false' (by rfl), letO_def, letO_def]
  have hrow : loopO (fun x : List Int × Int => ring_Halves_L1 (l.length : Int) x.1 x.2) (([] : List Int), (0 : Int)) = some (toI (List.range l.length)) := by
    refine loop_from (fun k => (toI (List.range k), (k : Int))) l.length rfl (fun k hk => ?_) ?_
    · unfold ring_Halves_L1
      dsimp only
      rw [if_true' (dec_t (by omega)), ck_in (le_maxL (by simp; omega)), letO_def, inc64 (by omega), List.range_succ]
      simp [toI]
    · unfold ring_Halves_L1
      dsimp only
      rw [if_false' (dec_f (by omega))]
  rw [bind_of hrow]
  exact z1
theorem halves_no {l : List Int} (h : ¬ Ring l) : ∃ c, ring_Check l = some c ∧ ring_Round l = some (0, 0, c) ∧ ring_Halves l = some (0, 0, c) ∧ c ≠ 0 := by
  obtain ⟨c, h1, h2⟩ := chk_no h
  refine ⟨c, h1, ?_, ?_, h2⟩
  · unfold ring_Round
    rw [bind_of h1, if_true' (by simpa using h2)]
  · unfold ring_Halves
    rw [bind_of h1, if_true' (by simpa using h2)]
theorem logs (n : Nat) (h : n ≤ 2 ^ 40) : ∃ R, n ≤ 2 ^ R ∧ (∀ d, d < R → 2 ^ d < n) ∧ R ≤ 40 := by
  have key : ∀ k, (∃ R, n ≤ 2 ^ R ∧ (∀ d, d < R → 2 ^ d < n) ∧ R ≤ k) ∨ ∀ d, d ≤ k → 2 ^ d < n := by
    intro k
    induction k with
    | zero =>
      by_cases e : n ≤ 2 ^ 0
      · exact .inl ⟨0, e, fun d hd => by omega, by omega⟩
      · exact .inr fun d hd => by rw [show d = 0 by omega]; omega
    | succ k ih =>
      rcases ih with ⟨R, a, b, c⟩ | hd
      · exact .inl ⟨R, a, b, by omega⟩
      · by_cases e : n ≤ 2 ^ (k + 1)
        · exact .inl ⟨k + 1, e, fun d h => hd d (by omega), by omega⟩
        · refine .inr fun d h => ?_
          by_cases e2 : d = k + 1
          · rw [e2]; omega
          · exact hd d (by omega)
  rcases key 40 with h1 | h1
  · exact h1
  · have := h1 40 (by omega); omega
theorem two73 : Ring [(7 : Int), (3 : Int)] := by
  refine ⟨by decide, by decide, fun i hi => ?_, fun i j h1 h2 => ?_⟩
  · have : i < 2 := hi
    rcases (by omega : i = 0 ∨ i = 1) with rfl | rfl <;> decide
  · have : j < 2 := h2
    have e1 : i = 0 := by omega
    have e2 : j = 1 := by omega
    subst e1 e2
    decide
theorem halves_law (l : List Int) : RingHalves l = some true := by
  unfold RingHalves
  obtain ⟨p, s, e1, e2, e3, e4⟩ := halves_ok two73 (R := 1) (by decide) (fun d hd => by rw [show d = 0 by omega]; decide)
  have hp : p = 0 := by
    have a : p < 2 := e2.1
    have b := e2.2 0 (by decide)
    rcases (by omega : p = 0 ∨ p = 1) with rfl | rfl
    · rfl
    · exact absurd b (by decide)
  have e3' : 4 ≤ s := e3
  rw [bind_of e1, if_false' (by
    rw [Bool.or_eq_false_iff, Bool.or_eq_false_iff]
    exact ⟨⟨rfl, by rw [hp]; rfl⟩, dec_f (by show ¬ ((s : Int) < 4); omega)⟩)]
  by_cases hr : Ring l
  · have h1 := hr.len1
    have h2 := hr.len2
    obtain ⟨R, r1, r2, r3⟩ := logs l.length (Nat.le_trans h2 (by decide))
    have hR5 : R ≤ 5 := by
      refine Classical.byContradiction fun hn => ?_
      have := r2 5 (by omega)
      have e : 2 ^ 5 = 32 := rfl
      omega
    obtain ⟨q, t, f1, f2, f3, f4⟩ := halves_ok hr r1 r2
    rw [bind_of f1, if_false' (by rfl), letO_def]
    have hshl : ∀ d : Nat, d ≤ 5 → arR .shl .i64 (1 : Int) (d : Int) = ((2 ^ d : Nat) : Int) := fun d hd => by
      have hb : 2 ^ d ≤ 2 ^ 5 := Nat.pow_le_pow_right (by decide) hd
      have := shl_N (k := .i64) (a := 1) (n := d) (by show d ≤ 64; omega) (by
        rw [Nat.one_mul]
        have e : (2 : Nat) ^ 5 = 32 := rfl
        show ((2 ^ d : Nat) : Int) ≤ 9223372036854775807
        omega)
      rw [Nat.one_mul] at this
      exact this
    have hloop : loopO (fun x : Int => RingHalves_L1 (l.length : Int) x) (0 : Int) = some (R : Int) := by
      refine loop_from (fun k => (k : Int)) R rfl (fun k hk => ?_) ?_
      · unfold RingHalves_L1
        have := r2 k hk
        rw [ck_in (by omega), hshl k (by omega), if_true' (dec_t (by omega)), inc64 (by omega)]
      · unfold RingHalves_L1
        rw [ck_in (by omega), hshl R hR5, if_false' (dec_f (by omega))]
    rw [bind_of hloop]
    dsimp only
    have e8 : 8 * l.length * R ≤ 8 * 30 * 5 := Nat.mul_le_mul (by omega) hR5
    have e9 : ((8 : Int) * (l.length : Int)) * (R : Int) = ((8 * l.length * R : Nat) : Int) := by push_cast; rfl
    rw [mul64 (x := (2 : Int)) (by omega) (by omega), mul64 (x := (4 : Int)) (by omega) (by omega), mul64 (x := (8 : Int)) (by omega) (by omega), mul64 (y := (R : Int)) (by rw [e9]; omega) (by rw [e9]; omega), e9, add64 (by omega) (by omega), dec_t (by omega), dec_t (by omega)]
    rfl
  · obtain ⟨c, _, _, c1, c2⟩ := halves_no hr
    rw [bind_of c1, if_true' (by rw [bne_iff_ne]; exact c2)]
    rfl
/-! ### Order alone counts -/
theorem ck_congr {α : Type} {p : Prop} {a b : Option α} (h : p → a = b) : ck p a = ck p b := by
  by_cases hp : p
  · rw [ck_in hp, ck_in hp, h hp]
  · unfold ck
    simp only [hp]
    rfl
def dbl (l : List Int) : List Int := l.map fun x => 2 * x + 1
theorem dbl_len (l : List Int) : (dbl l).length = l.length := by simp [dbl]
theorem dbl_at {l : List Int} {k : Nat} (hk : k < l.length) : (dbl l).getD k 0 = 2 * l.getD k 0 + 1 := by
  unfold dbl
  rw [getD_lt (by simpa using hk), getD_lt hk, List.getElem_map]
theorem dec_dbl (x y : Int) : decide (2 * x + 1 > 2 * y + 1) = decide (x > y) := by
  by_cases e : x > y
  · rw [dec_t e, dec_t (by omega)]
  · rw [dec_f e, dec_f (by omega)]
theorem ring_dbl {l : List Int} (hb : ∀ x ∈ l, 0 ≤ x ∧ x ≤ 1000000) : Ring (dbl l) ↔ Ring l := by
  constructor
  · intro h
    refine ⟨by have := h.len1; rw [dbl_len] at this; exact this, by have := h.len2; rw [dbl_len] at this; exact this, fun i hi => ?_, fun i j hij hj e => ?_⟩
    · have := hb _ (mem_getD' (d := 0) hi); omega
    · refine h.dis i j hij (by rw [dbl_len]; exact hj) ?_
      rw [dbl_at (by omega), dbl_at hj, e]
  · intro h
    refine ⟨by rw [dbl_len]; exact h.len1, by rw [dbl_len]; exact h.len2, fun i hi => ?_, fun i j hij hj e => ?_⟩
    · rw [dbl_len] at hi
      rw [dbl_at hi]
      have := hb _ (mem_getD' (d := 0) hi); omega
    · rw [dbl_len] at hj
      rw [dbl_at (by omega), dbl_at hj] at e
      exact h.dis i j hij hj (by omega)
theorem cont_dbl (l : List Int) (x : Int) (hl : l.length < 1000000000) : slices_Contains_Lint_int (dbl l) (2 * x + 1) = slices_Contains_Lint_int l x := by
  rw [cont_eq _ _ (by rw [dbl_len]; exact hl), cont_eq _ _ hl]
  congr 1
  rw [decide_eq_decide]
  unfold dbl
  rw [List.mem_map]
  constructor
  · rintro ⟨a, h1, h2⟩
    rw [show x = a by omega]; exact h1
  · intro h; exact ⟨x, h, rfl⟩
theorem check_dbl {l : List Int} (hb : ∀ x ∈ l, 0 ≤ x ∧ x ≤ 1000000) : ring_Check (dbl l) = ring_Check l := by
  unfold ring_Check
  rw [dbl_len]
  by_cases hlen : (l.length : Int) < 1 ∨ (l.length : Int) > 30
  · have : ((decide ((l.length : Int) < (1 : Int))) || (decide ((l.length : Int) > (30 : Int)))) = true := by
      rw [Bool.or_eq_true]
      rcases hlen with h | h
      · exact .inl (dec_t h)
      · exact .inr (dec_t h)
    rw [if_true' this, if_true' this]
  · have hB : (fun x : Int => ring_Check_L1 (dbl l) (l.length : Int) x) = fun x : Int => ring_Check_L1 l (l.length : Int) x := by
      funext k
      unfold ring_Check_L1
      rw [dbl_len]
      by_cases h1 : decide (k < (l.length : Int)) = true
      · rw [if_true' h1, if_true' h1]
        refine ck_congr fun hk => ?_
        have hk' : k.toNat < l.length := by omega
        have hx := hb _ (mem_getD' (d := 0) hk')
        rw [letO_def, letO_def, dbl_at hk', if_false' (by rw [Bool.or_eq_false_iff]; exact ⟨dec_f (by omega), dec_f (by omega)⟩), if_false' (by rw [Bool.or_eq_false_iff]; exact ⟨dec_f (by omega), dec_f (by omega)⟩)]
        have e : ((dbl l).take k.toNat).drop 0 = dbl ((l.take k.toNat).drop 0) := by
          unfold dbl
          rw [List.drop_zero, List.drop_zero, List.map_take]
        rw [e, cont_dbl _ _ (by simp; omega)]
      · rw [if_neg h1, if_neg h1]
    simp only [letO_def, hB]
theorem probe_dbl (l : List Int) (i w f : Int) : ring_probe (dbl l) i w f = ring_probe l i w f := by
  unfold ring_probe
  rw [dbl_len, letO_def, letO_def]
  have hB : (fun x : Int => ring_probe_L1 (dbl l) i w f (l.length : Int) x) = fun x : Int => ring_probe_L1 l i w f (l.length : Int) x := by
    funext k
    unfold ring_probe_L1
    rw [dbl_len]
    by_cases h1 : decide (k ≤ f) = true
    · rw [if_true' h1, if_true' h1]
      refine ck_congr fun _ => ?_
      rw [letO_def, letO_def]
      generalize arR .rem .i64 (arR .add .i64 i (arR .mul .i64 k w)) (l.length : Int) = a
      by_cases h2 : (a == i) = true
      · rw [if_true' h2, if_true' h2]
      · rw [if_neg h2, if_neg h2]
        refine ck_congr fun ha => ck_congr fun hi => ?_
        rw [dbl_at (by omega), dbl_at (by omega), dec_dbl]
    · rw [if_neg h1, if_neg h1]
  rw [hB]
theorem halves_dbl {l : List Int} (hb : ∀ x ∈ l, 0 ≤ x ∧ x ≤ 1000000) : ring_Halves (dbl l) = ring_Halves l := by
  unfold ring_Halves ring_Halves_L2 ring_Halves_L3
  rw [check_dbl hb]
  simp only [dbl_len, probe_dbl]
theorem round_dbl {l : List Int} (hb : ∀ x ∈ l, 0 ≤ x ∧ x ≤ 1000000) : ring_Round (dbl l) = ring_Round l := by
  unfold ring_Round
  rw [check_dbl hb]
  have hB : (fun x : Int × Int × Int => ring_Round_L1 (dbl l) (l.length : Int) (l.length : Int) x.1 x.2.1 x.2.2) = fun x : Int × Int × Int => ring_Round_L1 l (l.length : Int) (l.length : Int) x.1 x.2.1 x.2.2 := by
    funext ⟨s, ld, i⟩
    unfold ring_Round_L1
    dsimp only
    rw [dbl_len]
    by_cases h1 : decide (i < (l.length : Int)) = true
    · rw [if_true' h1, if_true' h1]
      refine ck_congr fun hi => ?_
      rw [letO_def, letO_def, dbl_at (by omega)]
      have hC : (fun x : Int × Int => ring_Round_L2 (dbl l) (l.length : Int) i ld (2 * l.getD i.toNat 0 + 1) x.1 x.2) = fun x : Int × Int => ring_Round_L2 l (l.length : Int) i ld (l.getD i.toNat 0) x.1 x.2 := by
        funext ⟨t, k⟩
        unfold ring_Round_L2
        dsimp only
        rw [letO_def, letO_def, dbl_len]
        refine ck_congr fun _ => ?_
        simp only [letO_def]
        generalize arR .rem .i64 (arR .add .i64 i k) (l.length : Int) = a
        by_cases h2 : (a == i) = true
        · rw [if_true' h2, if_true' h2]
        · rw [if_neg h2, if_neg h2]
          refine ck_congr fun ha => ?_
          rw [dbl_at (by omega), dec_dbl]
      rw [hC]
    · rw [if_neg h1, if_neg h1]
  simp only [letO_def, dbl_len, hB]
theorem two12 : Ring [(1 : Int), (2 : Int)] := by
  refine ⟨by decide, by decide, fun i hi => ?_, fun i j h1 h2 => ?_⟩
  · have : i < 2 := hi
    rcases (by omega : i = 0 ∨ i = 1) with rfl | rfl <;> decide
  · have : j < 2 := h2
    have e1 : i = 0 := by omega
    have e2 : j = 1 := by omega
    subst e1 e2
    decide
end Go.Proofs.Ytiddimfepemohaa.Rg
