/- Rings: Halves. -/
import Derived.Test.YtiddimfepemohaaRgC
open Go Go.Proofs.Ytiddimfepemohaa.Sy Go.Proofs.Ytiddimfepemohaa.Pu
set_option linter.unusedVariables false
set_option linter.unusedSimpArgs false
namespace Go.Proofs.Ytiddimfepemohaa.Rg
def IsMax (l : List Int) (i : Nat) : Prop := i < l.length ∧ ∀ j, j < l.length → l.getD j 0 ≤ l.getD i 0
def Win (l : List Int) (f i : Nat) : Prop := (∀ k, 1 ≤ k → k ≤ f → k < l.length → l.getD (spot l.length i 1 k) 0 ≤ l.getD i 0) ∧ ∀ k, 1 ≤ k → k ≤ f → k < l.length → l.getD (spot l.length i (l.length - 1) k) 0 ≤ l.getD i 0
theorem ring_dis {l : List Int} (h : Ring l) {i j : Nat} (hi : i < l.length) (hj : j < l.length) (he : l.getD i 0 = l.getD j 0) : i = j := by
  rcases Nat.lt_trichotomy i j with e | e | e
  · exact absurd he (h.dis i j e hj)
  · exact e
  · exact absurd he.symm (h.dis j i e hi)
theorem max_unique {l : List Int} (h : Ring l) {i j : Nat} (hi : IsMax l i) (hj : IsMax l j) : i = j :=
  ring_dis h hi.1 hj.1 (by have := hi.2 j hj.1; have := hj.2 i hi.1; omega)
theorem win_max {l : List Int} {f i : Nat} (hi : i < l.length) (hf : l.length ≤ f) (h : Win l f i) : IsMax l i := by
  refine ⟨hi, fun j hj => ?_⟩
  by_cases e : j = i
  · rw [e]; exact Int.le_refl _
  · by_cases hl : i < j
    · have := h.1 (j - i) (by omega) (by omega) (by omega)
      rw [spot_fwd hi (by omega), if_pos (by omega), show i + (j - i) = j by omega] at this
      exact this
    · have := h.1 (j + l.length - i) (by omega) (by omega) (by omega)
      rw [spot_fwd hi (by omega), if_neg (by omega), show i + (j + l.length - i) - l.length = j by omega] at this
      exact this
theorem max_win {l : List Int} {f i : Nat} (h : IsMax l i) : Win l f i :=
  ⟨fun k _ _ _ => h.2 _ (spot_lt h.1), fun k _ _ _ => h.2 _ (spot_lt h.1)⟩
theorem win_gap {l : List Int} (hr : Ring l) {f i j : Nat} (hij : i < j) (hj : j < l.length) (hi : Win l f i) (hjw : Win l f j) : i + f < j ∧ j + f < i + l.length := by
  constructor
  · refine Classical.byContradiction fun hn => ?_
    have a := hi.1 (j - i) (by omega) (by omega) (by omega)
    rw [spot_fwd (by omega) (by omega), if_pos (by omega), show i + (j - i) = j by omega] at a
    have b := hjw.2 (j - i) (by omega) (by omega) (by omega)
    rw [spot_bwd hj (by omega), if_pos (by omega), show j - (j - i) = i by omega] at b
    have := ring_dis hr (show i < l.length by omega) hj (by omega)
    omega
  · refine Classical.byContradiction fun hn => ?_
    have a := hjw.1 (i + l.length - j) (by omega) (by omega) (by omega)
    rw [spot_fwd hj (by omega), if_neg (by omega), show j + (i + l.length - j) - l.length = i by omega] at a
    have b := hi.2 (i + l.length - j) (by omega) (by omega) (by omega)
    rw [spot_bwd (by omega) (by omega), if_neg (by omega), show i + l.length - (i + l.length - j) = j by omega] at b
    have := ring_dis hr (show i < l.length by omega) hj (by omega)
    omega
theorem gaps {f B : Nat} : ∀ (js : List Nat) (a : Nat), (a :: js).Pairwise (fun x y => x + f < y) → (∀ x ∈ a :: js, x < B) → js.length * (f + 1) + a < B
  | [], a, _, h => by simpa using h a (by simp)
  | b :: js, a, hp, h => by
    obtain ⟨h1, h2⟩ := List.pairwise_cons.1 hp
    have ih := gaps js b h2 fun x hx => h x (by simp only [List.mem_cons] at hx ⊢; exact .inr hx)
    have := h1 b (by simp)
    simp only [List.length_cons, Nat.succ_mul]
    omega
/-- Those that are left: rising, and each has won. -/
theorem win_count {l : List Int} (hr : Ring l) {f : Nat} (hf : f < l.length) {js : List Nat} (hs : js.Pairwise (· < ·)) (hl : ∀ x ∈ js, x < l.length) (hw : ∀ x ∈ js, Win l f x) : js.length * f ≤ l.length := by
  cases js with
  | nil => simp
  | cons a js =>
    have hg : (a :: js).Pairwise (fun x y => x + f < y) := by
      refine List.Pairwise.imp_of_mem (fun {x y} hx hy hxy => ?_) hs
      exact (win_gap hr hxy (hl y hy) (hw x hx) (hw y hy)).1
    obtain ⟨h1, _⟩ := List.pairwise_cons.1 hs
    have := gaps (f := f) (B := l.length + a - f) js a hg fun x hx => by
      rcases List.mem_cons.1 hx with rfl | hx'
      · omega
      · have := (win_gap hr (h1 x hx') (hl x hx) (hw a (by simp)) (hw x hx)).2
        omega
    simp only [List.length_cons, Nat.succ_mul, Nat.mul_succ] at this ⊢
    omega
abbrev toI (js : List Nat) : List Int := js.map fun i : Nat => (i : Int)
theorem toI_at {js : List Nat} {k : Nat} (hk : k < js.length) : (toI js).getD k 0 = ((js[k] : Nat) : Int) := by
  simp [List.getD_eq_getElem?_getD, hk]
end Go.Proofs.Ytiddimfepemohaa.Rg
