/- Rings: what a probe tells. -/
import Derived.Test.YtiddimfepemohaaRgB
open Go Go.Proofs.Ytiddimfepemohaa.Sy Go.Proofs.Ytiddimfepemohaa.Pu
set_option linter.unusedVariables false
set_option linter.unusedSimpArgs false
namespace Go.Proofs.Ytiddimfepemohaa.Rg
/-- Where the k-th message of i comes: forward (w = 1) or backward (w = n - 1). -/
def spot (n i w k : Nat) : Nat := (i + k * w) % n
structure Probe (l : List Int) (i w far m : Nat) (b : Bool) : Prop where
  one : 1 ≤ m
  le : m ≤ 2 * far
  yes : b = true → ∀ k, 1 ≤ k → k ≤ far → k < l.length → l.getD (spot l.length i w k) 0 ≤ l.getD i 0
  no : b = false → ∃ k, 1 ≤ k ∧ k ≤ far ∧ k < l.length ∧ l.getD i 0 < l.getD (spot l.length i w k) 0
theorem spot_fwd {n i k : Nat} (hi : i < n) (hk : k ≤ n) : spot n i 1 k = if i + k < n then i + k else i + k - n := by
  unfold spot
  rw [Nat.mul_one]
  exact modn hi hk
theorem spot_bwd {n i k : Nat} (hi : i < n) (hk : k ≤ n) : spot n i (n - 1) k = if k ≤ i then i - k else i + n - k := by
  unfold spot
  have e : i + k * (n - 1) + k = i + k * n := by
    have : k * (n - 1) + k = k * n := by
      have h := Nat.mul_succ k (n - 1)
      rw [show (n - 1).succ = n by omega] at h
      omega
    omega
  split
  · rename_i h
    by_cases hk0 : k = 0
    · subst hk0; simp [Nat.mod_eq_of_lt hi]
    have : i + k * (n - 1) = (i - k) + n * k := by rw [Nat.mul_comm n k]; omega
    rw [this, Nat.add_mul_mod_self_left, Nat.mod_eq_of_lt (by omega)]
  · rename_i h
    have h1 : 1 ≤ k := by omega
    have h2 : n * (k - 1) + n = n * k := by
      have h := Nat.mul_succ n (k - 1)
      rw [show (k - 1).succ = k by omega] at h
      omega
    have : i + k * (n - 1) = (i + n - k) + n * (k - 1) := by rw [Nat.mul_comm k n] at e; omega
    rw [this, Nat.add_mul_mod_self_left, Nat.mod_eq_of_lt (by omega)]
theorem spot_ne {n i w k : Nat} (hw : w = 1 ∨ w = n - 1) (hi : i < n) (h1 : 1 ≤ k) (hk : k < n) : spot n i w k ≠ i := by
  rcases hw with rfl | rfl
  · rw [spot_fwd hi (by omega)]; split <;> omega
  · rw [spot_bwd hi (by omega)]; split <;> omega
theorem spot_full {n i w : Nat} (hw : w = 1 ∨ w = n - 1) (hi : i < n) : spot n i w n = i := by
  rcases hw with rfl | rfl
  · rw [spot_fwd hi (Nat.le_refl _)]; split <;> omega
  · rw [spot_bwd hi (Nat.le_refl _)]; split <;> omega
theorem spot_lt {n i w k : Nat} (hi : i < n) : spot n i w k < n := Nat.mod_lt _ (by omega)
theorem probe_ok {l : List Int} (h2 : l.length ≤ 30) {i w far : Nat} (hw : w = 1 ∨ w = l.length - 1) (hi : i < l.length) (hf : 1 ≤ far) (hf2 : far ≤ 1000) :
    ∃ (m : Nat) (b : Bool), ring_probe l (i : Int) (w : Int) (far : Int) = some ((m : Int), b) ∧ Probe l i w far m b := by
  have hw30 : w ≤ 30 := by omega
  obtain ⟨z, z1, z2⟩ := loop_countE (B := fun x : Int => ring_probe_L1 l (i : Int) (w : Int) (far : Int) (l.length : Int) x) (fun r x => x = ((r + 1 : Nat) : Int) ∧ r < l.length ∧ ∀ k, 1 ≤ k → k ≤ r → l.getD (spot l.length i w k) 0 ≤ l.getD i 0) far (fun z => (z = .inl () ∧ far < l.length ∧ ∀ k, 1 ≤ k → k ≤ far → l.getD (spot l.length i w k) 0 ≤ l.getD i 0) ∨ ∃ (m : Nat) (b : Bool), z = .inr ((m : Int), b) ∧ Probe l i w far m b) (x := (1 : Int)) ⟨rfl, by omega, fun k _ _ => by omega⟩ (by
    rintro r x hr ⟨rfl, hrn, hle⟩
    have hmul : (r + 1) * w ≤ 1000 * 30 := Nat.mul_le_mul (by omega) hw30
    have e1 : arR .mul .i64 ((r + 1 : Nat) : Int) (w : Int) = (((r + 1) * w : Nat) : Int) := by
      rw [mul64 (by rw [← Int.natCast_mul]; omega) (by rw [← Int.natCast_mul]; omega), Int.natCast_mul]
    have e2 : arR .add .i64 (i : Int) (((r + 1) * w : Nat) : Int) = ((i + (r + 1) * w : Nat) : Int) := by
      rw [add64 (by omega) (by omega)]; omega
    have hs := spot_lt (w := w) (k := r + 1) hi
    unfold ring_probe_L1
    rw [if_true' (dec_t (by omega)), ck_in (by omega), letO_def, e1, e2, rem_nat]
    show (∃ x', (if ((((spot l.length i w (r + 1) : Nat)) : Int) == (i : Int)) = true then _ else _) = _ ∧ _) ∨ ∃ z, (if ((((spot l.length i w (r + 1) : Nat)) : Int) == (i : Int)) = true then _ else _) = _ ∧ _
    by_cases hn : r + 1 = l.length
    · right
      have hat : spot l.length i w (r + 1) = i := by rw [hn]; exact spot_full hw hi
      rw [hat, if_true' (by simp)]
      refine ⟨_, rfl, .inr ⟨r + 1, true, rfl, ⟨by omega, by omega, fun _ k k1 k2 k3 => hle k k1 (by omega), fun h => by cases h⟩⟩⟩
    · have hne := spot_ne hw hi (show 1 ≤ r + 1 by omega) (show r + 1 < l.length by omega)
      rw [if_false' (by rw [beq_eq_false_iff_ne]; intro h; exact hne (by exact_mod_cast h)), ck_in (by show 0 ≤ ((spot l.length i w (r + 1) : Nat) : Int) ∧ ((spot l.length i w (r + 1) : Nat) : Int) < _; omega), ck_in (by omega)]
      simp only [Int.toNat_natCast]
      show (∃ x', (if decide (l.getD (spot l.length i w (r + 1)) 0 > l.getD i 0) = true then _ else _) = _ ∧ _) ∨ ∃ z, (if decide (l.getD (spot l.length i w (r + 1)) 0 > l.getD i 0) = true then _ else _) = _ ∧ _
      by_cases hg : l.getD (spot l.length i w (r + 1)) 0 > l.getD i 0
      · right
        rw [if_true' (dec_t hg)]
        refine ⟨_, rfl, .inr ⟨r + 1, false, rfl, ⟨by omega, by omega, fun h => Bool.noConfusion h, fun _ => ⟨r + 1, by omega, by omega, by omega, hg⟩⟩⟩⟩
      · left
        rw [if_false' (dec_f hg), inc64 (by omega)]
        refine ⟨_, rfl, rfl, by omega, fun k k1 k2 => ?_⟩
        by_cases e : k = r + 1
        · rw [e]; omega
        · exact hle k k1 (by omega)) (by
    rintro x ⟨rfl, hrn, hle⟩
    unfold ring_probe_L1
    rw [if_false' (dec_f (by omega))]
    exact ⟨_, rfl, .inl ⟨rfl, hrn, hle⟩⟩)
  unfold ring_probe
  rw [letO_def]
  rcases z2 with ⟨rfl, hfn, hle⟩ | ⟨m, b, rfl, hp⟩
  · rw [bindE_inl z1]
    refine ⟨2 * far, true, ?_, ⟨by omega, Nat.le_refl _, fun _ k k1 k2 _ => hle k k1 k2, fun h => by cases h⟩⟩
    rw [mul64 (by omega) (by omega)]
    congr 2
  · exact ⟨m, b, bindE_inr z1, hp⟩
end Go.Proofs.Ytiddimfepemohaa.Rg
