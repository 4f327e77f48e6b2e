/- Rings: the law RingRound. -/
import Derived.Test.YtiddimfepemohaaRgA
open Go Go.Proofs.Ytiddimfepemohaa.Sy Go.Proofs.Ytiddimfepemohaa.Pu
set_option linter.unusedVariables false
set_option linter.unusedSimpArgs false
namespace Go.Proofs.Ytiddimfepemohaa.Rg
theorem rest_eq (a n : Int) (hn : 0 < n) (hb : n < 1000000000000) : R_Rest a n = some (a % n) := by
  unfold R_Rest
  rw [if_false' (dec_f (by omega)), ck_in (by omega), ck_in (by omega)]
  have h1 := Int.tmod_lt_of_pos a hn
  have h2 := Int.lt_tmod_of_pos a hn
  rw [rem64, rem64, add64 (by omega) (by omega), tmod_rest' a n hn]
theorem low_eq {n : Nat} (h : n ≤ 30) : arR .sub .i64 (arR .mul .i64 2 (n : Int)) 1 = 2 * (n : Int) - 1 := by
  rw [mul64 (by omega) (by omega), sub64 (by omega) (by omega)]
theorem high_eq {n : Nat} (h : n ≤ 30) : arR .quo .i64 (arR .mul .i64 (n : Int) (arR .add .i64 (n : Int) 1)) 2 = ((n * (n + 1) / 2 : Nat) : Int) := by
  have hb : n * (n + 1) ≤ 30 * 31 := Nat.mul_le_mul h (by omega)
  have e1 : (n : Int) * ((n + 1 : Nat) : Int) = ((n * (n + 1) : Nat) : Int) := by rw [Int.natCast_mul]
  rw [inc64 (by omega), mul64 (by rw [e1]; omega) (by rw [e1]; omega), e1, quo64]
  · rfl
  · show -9223372036854775808 ≤ (((n * (n + 1) / 2 : Nat)) : Int); omega
  · show (((n * (n + 1) / 2 : Nat)) : Int) ≤ 9223372036854775807; omega
/-- A ring in rising order. -/
theorem rise_sum {l : List Int} {n : Nat} (hn : 1 ≤ n) (hl : l.length = n) (he : ∀ i, i < n → l.getD i 0 = (i : Int)) {ds : Nat → Nat} (h : ∀ i, i < l.length → Goes l i (ds i)) : sumN ds n + 1 = 2 * n := by
  have h1 : ∀ i, i < n - 1 → ds i = 1 := by
    intro i hi
    have g := h i (by omega)
    by_cases e : 1 < ds i
    · have := g.less 1 (by omega) e
      rw [hl, Nat.mod_eq_of_lt (by omega), he _ (by omega), he i (by omega)] at this
      omega
    · have := g.one; omega
  have h2 : ds (n - 1) = n := by
    have := goes_max (h (n - 1) (by omega)) (by omega) (fun j hj => by rw [he j (by omega), he _ (by omega)]; omega)
    omega
  have e := sumN_split ds (n - 1) 1
  rw [show n - 1 + 1 = n by omega] at e
  rw [e, sumN_congr (f := ds) (g := fun _ => 1) h1, sumN_const]
  simp only [sumN, Nat.add_zero]
  omega
theorem fall_sum' (n : Nat) : ∀ k, k ≤ n → 2 * sumN (fun i => n - i) k + k * k = 2 * (n * k) + k
  | 0, _ => by simp [sumN]
  | k + 1, hk => by
    have := fall_sum' n k (by omega)
    simp only [sumN]
    have e1 : (k + 1) * (k + 1) = k * k + 2 * k + 1 := by rw [Nat.mul_succ, Nat.succ_mul]; omega
    have e2 : n * (k + 1) = n * k + n := Nat.mul_succ n k
    rw [e1, e2]
    omega
theorem fall_sum {l : List Int} {n : Nat} (hn : 1 ≤ n) (hl : l.length = n) (he : ∀ i, i < n → l.getD i 0 = ((n - i : Nat) : Int)) {ds : Nat → Nat} (h : ∀ i, i < l.length → Goes l i (ds i)) : 2 * sumN ds n = n * (n + 1) := by
  have h1 : ∀ i, i < n → ds i = n - i := by
    intro i hi
    have g := h i (by omega)
    have g1 := g.one
    have g2 := g.le
    rcases Nat.lt_trichotomy (ds i) (n - i) with e | e | e
    · exfalso
      rcases g.stop with e2 | e2
      · omega
      · rw [hl, Nat.mod_eq_of_lt (by omega), he i hi, he _ (by omega)] at e2
        omega
    · exact e
    · exfalso
      have := g.less (n - i) (by omega) e
      rw [hl, show i + (n - i) = n by omega, Nat.mod_self, he i hi, he 0 (by omega)] at this
      omega
  rw [sumN_congr (g := fun i => n - i) h1]
  have := fall_sum' n n (Nat.le_refl n)
  rw [Nat.mul_succ]
  omega
theorem rows_ok {n : Nat} (hn : n ≤ 30) : ∃ a b, loopO (fun x : List Int × List Int × Int => RingRound_L1 (n : Int) x.1 x.2.1 x.2.2) (([] : List Int), ([] : List Int), (0 : Int)) = some (a, b) ∧ a.length = n ∧ b.length = n ∧ (∀ i, i < n → a.getD i 0 = (i : Int)) ∧ ∀ i, i < n → b.getD i 0 = ((n - i : Nat) : Int) := by
  obtain ⟨z, z1, a, b, rfl, z2⟩ := loop_count (B := fun x : List Int × List Int × Int => RingRound_L1 (n : Int) x.1 x.2.1 x.2.2) (fun k x => x.2.2 = (k : Int) ∧ x.1.length = k ∧ x.2.1.length = k ∧ (∀ i, i < k → x.1.getD i 0 = (i : Int)) ∧ ∀ i, i < k → x.2.1.getD i 0 = ((n - i : Nat) : Int)) n (fun z => ∃ a b, z = (a, b) ∧ a.length = n ∧ b.length = n ∧ (∀ i, i < n → a.getD i 0 = (i : Int)) ∧ ∀ i, i < n → b.getD i 0 = ((n - i : Nat) : Int)) (x := (([] : List Int), ([] : List Int), (0 : Int))) ⟨rfl, rfl, rfl, fun i hi => by omega, fun i hi => by omega⟩ (by
    rintro k ⟨a, b, kk⟩ hk ⟨e1, e2, e3, e4, e5⟩
    dsimp only at e1 e2 e3 e4 e5
    subst e1
    unfold RingRound_L1
    dsimp only
    rw [if_true' (dec_t (by omega)), ck_in (le_maxL (by simp; omega)), ck_in (le_maxL (by simp; omega)), letO_def, letO_def, inc64 (by omega), sub64 (by omega) (by omega)]
    refine ⟨_, rfl, rfl, by simp [e2], by simp [e3], fun i hi => ?_, fun i hi => ?_⟩
    · dsimp only
      rw [getD_app, e2]
      by_cases e : i = k
      · rw [if_pos e, e]
      · rw [if_neg e]; exact e4 i (by omega)
    · dsimp only
      rw [getD_app, e3]
      by_cases e : i = k
      · rw [if_pos e, e]; omega
      · rw [if_neg e]; exact e5 i (by omega)) (by
    rintro ⟨a, b, kk⟩ ⟨e1, e2, e3, e4, e5⟩
    dsimp only at e1 e2 e3 e4 e5
    subst e1
    unfold RingRound_L1
    dsimp only
    rw [if_false' (dec_f (by omega))]
    exact ⟨_, rfl, a, b, rfl, e2, e3, e4, e5⟩)
  exact ⟨a, b, z1, z2⟩
theorem ring_one : Ring [(7 : Int)] := ⟨by decide, by decide, fun i hi => by
  have : i = 0 := by simp at hi; omega
  subst this; decide, fun i j h1 h2 => by simp at h2; omega⟩
theorem round_law (t0 : List Int) (t1 : Int) : RingRound t0 t1 = some true := by
  unfold RingRound
  obtain ⟨ds, d1, d2⟩ := round_ok ring_one
  have d3 : sumN ds 1 = 1 := by
    have := d2 0 (by decide)
    have h1 := this.one
    have h2 := this.le
    simp only [List.length_cons, List.length_nil] at h2
    simp only [sumN]
    omega
  rw [bind_of d1, if_false' (by show ((0 : Int) != 0 || ((sumN ds 1 : Nat) : Int) != 1) = false; rw [d3]; rfl)]
  -- any ring
  have key : ∃ r : Int × Int × Int, ring_Round t0 = some r ∧ (((r.2.2 == (0 : Int)) && ((decide (r.2.1 < (arR .sub .i64 (arR .mul .i64 (2 : Int) (t0.length : Int)) (1 : Int)))) || (decide (r.2.1 > (arR .quo .i64 (arR .mul .i64 (t0.length : Int) (arR .add .i64 (t0.length : Int) (1 : Int))) (2 : Int))))))) = false := by
    by_cases h : Ring t0
    · obtain ⟨ds, d1, d2⟩ := round_ok h
      have h1 := h.len1
      have h2 := h.len2
      have a := round_low h1 d2
      have b := round_high h d2
      refine ⟨_, d1, ?_⟩
      rw [low_eq h2, high_eq h2]
      dsimp only
      rw [Bool.and_eq_false_iff, Bool.or_eq_false_iff]
      exact .inr ⟨dec_f (by omega), dec_f (by omega)⟩
    · obtain ⟨c, c1, c2⟩ := round_no h
      refine ⟨_, c1, ?_⟩
      rw [Bool.and_eq_false_iff]
      exact .inl (by simpa using c2)
  obtain ⟨r, r1, r2⟩ := key
  rw [bind_of r1, letO_def, ck_in (fun _ _ => by decide), if_false' r2, bind_of (rest_eq _ _ (by omega) (by omega)), letO_def]
  obtain ⟨n, hn⟩ : ∃ n : Nat, t1 % 30 = (n : Int) := ⟨(t1 % 30).toNat, by omega⟩
  have hn2 : n < 30 := by omega
  rw [hn, inc64 (by omega)]
  obtain ⟨a, b, ab, a1, b1, a2, b2⟩ := rows_ok (n := n + 1) (by omega)
  rw [bind_of ab]
  dsimp only
  have ra : Ring a := ⟨by omega, by omega, fun i hi => by rw [a2 i (by omega)]; omega, fun i j h1 h2 => by rw [a2 i (by omega), a2 j (by omega)]; omega⟩
  have rb : Ring b := ⟨by omega, by omega, fun i hi => by rw [b2 i (by omega)]; omega, fun i j h1 h2 => by rw [b2 i (by omega), b2 j (by omega)]; omega⟩
  obtain ⟨da, da1, da2⟩ := round_ok ra
  obtain ⟨db, db1, db2⟩ := round_ok rb
  have sa := rise_sum (n := n + 1) (by omega) a1 a2 da2
  have sb := fall_sum (n := n + 1) (by omega) b1 b2 db2
  rw [bind_of da1, bind_of db1, ck_in (fun _ => by decide), low_eq (n := n + 1) (by omega), high_eq (n := n + 1) (by omega)]
  dsimp only
  rw [a1, b1]
  have e1 : ((sumN da (n + 1) : Nat) : Int) = 2 * ((n + 1 : Nat) : Int) - 1 := by omega
  have e2 : ((sumN db (n + 1) : Nat) : Int) = (((n + 1) * (n + 1 + 1) / 2 : Nat) : Int) := by omega
  rw [e1, e2]
  simp
end Go.Proofs.Ytiddimfepemohaa.Rg
