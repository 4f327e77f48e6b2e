/- Rings: a phase of Halves, and all of them. -/
import Derived.Test.YtiddimfepemohaaRgD
open Go Go.Proofs.Ytiddimfepemohaa.Sy Go.Proofs.Ytiddimfepemohaa.Pu
set_option linter.unusedVariables false
set_option linter.unusedSimpArgs false
namespace Go.Proofs.Ytiddimfepemohaa.Rg
theorem take_snoc {js : List Nat} {k : Nat} (hk : k < js.length) : js.take (k + 1) = js.take k ++ [js[k]] := by
  rw [List.take_add_one]
  simp [hk]
structure PI (l : List Int) (f : Nat) (js : List Nat) (s k : Nat) (x : Int × List Int × Int) : Prop where
  at_ : x.2.2 = (k : Int)
  ex : ∃ (s' : Nat) (ks : List Nat), x.1 = (s' : Int) ∧ x.2.1 = toI ks ∧ ks.Sublist (js.take k) ∧ (∀ y ∈ ks, Win l f y) ∧ (∀ y ∈ js.take k, Win l f y → y ∈ ks) ∧ s + 2 * k ≤ s' ∧ s' ≤ s + 4 * f * k ∧ (l.length ≤ f → ∀ y ∈ js.take k, ¬ Win l f y)
theorem phase {l : List Int} (hr : Ring l) {f : Nat} (hf : 1 ≤ f) (hf2 : f ≤ 60) {js : List Nat} (hjl : ∀ x ∈ js, x < l.length) (hlen : js.length ≤ 30) {s : Nat} (hs : s ≤ 100000) :
    ∃ z, loopO (fun x : Int × List Int × Int => ring_Halves_L3 l (l.length : Int) (toI js) (f : Int) (js.length : Int) x.1 x.2.1 x.2.2) ((s : Int), ([] : List Int), (0 : Int)) = some z ∧
      ((∃ (s' : Nat) (ks : List Nat), z = .inl ((s' : Int), toI ks) ∧ ks.Sublist js ∧ (∀ y ∈ ks, Win l f y) ∧ (∀ y ∈ js, Win l f y → y ∈ ks) ∧ s + 2 * js.length ≤ s' ∧ s' ≤ s + 4 * f * js.length ∧ (l.length ≤ f → ∀ y ∈ js, ¬ Win l f y)) ∨
       ∃ (s' i : Nat), z = .inr (.inr ((i : Int), (s' : Int), (0 : Int))) ∧ l.length ≤ f ∧ i ∈ js ∧ Win l f i ∧ s + 2 ≤ s' ∧ s' ≤ s + 4 * f * js.length) := by
  have h2 := hr.len2
  have h1 := hr.len1
  obtain ⟨z, z1, z2⟩ := loop_countE (B := fun x : Int × List Int × Int => ring_Halves_L3 l (l.length : Int) (toI js) (f : Int) (js.length : Int) x.1 x.2.1 x.2.2) (PI l f js s) js.length (fun z => (∃ (s' : Nat) (ks : List Nat), z = .inl ((s' : Int), toI ks) ∧ ks.Sublist js ∧ (∀ y ∈ ks, Win l f y) ∧ (∀ y ∈ js, Win l f y → y ∈ ks) ∧ s + 2 * js.length ≤ s' ∧ s' ≤ s + 4 * f * js.length ∧ (l.length ≤ f → ∀ y ∈ js, ¬ Win l f y)) ∨
       ∃ (s' i : Nat), z = .inr (.inr ((i : Int), (s' : Int), (0 : Int))) ∧ l.length ≤ f ∧ i ∈ js ∧ Win l f i ∧ s + 2 ≤ s' ∧ s' ≤ s + 4 * f * js.length) (x := ((s : Int), ([] : List Int), (0 : Int))) ⟨rfl, s, [], rfl, rfl, List.nil_sublist _, fun y hy => by simp at hy, fun y hy => by simp at hy, by omega, by omega, fun _ y hy => by simp at hy⟩ (by
    rintro k ⟨a, b, c⟩ hk ⟨e0, s', ks, e1, e2, e3, e4, e5, e6, e7, e8⟩
    dsimp only at e0 e1 e2
    subst e0 e1 e2
    have hi := hjl js[k] (List.getElem_mem hk)
    obtain ⟨m1, b1, p1, q1⟩ := probe_ok (l := l) h2 (w := 1) (.inl rfl) hi hf (by omega)
    obtain ⟨m2, b2, p2, q2⟩ := probe_ok (l := l) h2 (w := l.length - 1) (.inr rfl) hi hf (by omega)
    have hfk : 4 * f * k ≤ 4 * 60 * 30 := Nat.mul_le_mul (by omega) (by omega)
    have hfk1 : 4 * f * (k + 1) = 4 * f * k + 4 * f := Nat.mul_succ _ _
    have hfj : 4 * f * (k + 1) ≤ 4 * f * js.length := Nat.mul_le_mul_left _ (by omega)
    have o1 := q1.one
    have o2 := q2.one
    have l1 := q1.le
    have l2 := q2.le
    have ew : arR .sub .i64 (l.length : Int) 1 = ((l.length - 1 : Nat) : Int) := by rw [sub64 (by omega) (by omega)]; omega
    have hks := List.Sublist.length_le e3
    have hks2 : ks.length ≤ 30 := by rw [List.length_take] at hks; omega
    have hwin : (b1 && b2) = true ↔ Win l f js[k] := by
      rw [Bool.and_eq_true]
      constructor
      · rintro ⟨h1, h2⟩; exact ⟨q1.yes h1, q2.yes h2⟩
      · rintro ⟨h1, h2⟩
        constructor
        · cases hb : b1
          · obtain ⟨j, j1, j2, j3, j4⟩ := q1.no hb
            have := h1 j j1 j2 j3; omega
          · rfl
        · cases hb : b2
          · obtain ⟨j, j1, j2, j3, j4⟩ := q2.no hb
            have := h2 j j1 j2 j3; omega
          · rfl
    have p1' : ring_probe l ((js[k] : Nat) : Int) (1 : Int) (f : Int) = some ((m1 : Int), b1) := p1
    unfold ring_Halves_L3
    dsimp only
    rw [if_true' (dec_t (by omega)), ck_in (by simp; omega), letO_def, Int.toNat_natCast, toI_at hk, bind_of p1', ew, bind_of p2]
    dsimp only
    rw [letO_def, add64 (x := (m1 : Int)) (by omega) (by omega), add64 (x := (s' : Int)) (by omega) (by omega)]
    have es : (s' : Int) + ((m1 : Int) + (m2 : Int)) = ((s' + m1 + m2 : Nat) : Int) := by omega
    rw [es]
    simp only [ring_Halves_J4, inc64 (show k < 1000000000000 by omega)]
    by_cases hb : (b1 && b2) = true
    · have hw := hwin.1 hb
      rw [if_true' hb]
      by_cases hfn : l.length ≤ f
      · right
        rw [if_true' (dec_t (by omega))]
        exact ⟨_, rfl, .inr ⟨s' + m1 + m2, js[k], rfl, hfn, List.getElem_mem hk, hw, by omega, by omega⟩⟩
      · left
        rw [if_false' (dec_f (by omega)), ck_in (le_maxL (by simp; omega))]
        refine ⟨_, rfl, rfl, s' + m1 + m2, ks ++ [js[k]], rfl, by simp [toI], ?_, fun y hy => ?_, fun y hy hyw => ?_, by omega, by omega, fun h => absurd h hfn⟩
        · rw [take_snoc hk]; exact List.Sublist.append e3 (List.Sublist.refl _)
        · rcases List.mem_append.1 hy with hy | hy
          · exact e4 y hy
          · rw [List.mem_singleton.1 hy]; exact hw
        · rw [take_snoc hk] at hy
          rcases List.mem_append.1 hy with hy | hy
          · exact List.mem_append.2 (.inl (e5 y hy hyw))
          · exact List.mem_append.2 (.inr hy)
    · left
      have hw : ¬ Win l f js[k] := fun h => hb (hwin.2 h)
      rw [if_false' (Bool.eq_false_iff.2 hb)]
      refine ⟨_, rfl, rfl, s' + m1 + m2, ks, rfl, rfl, ?_, e4, fun y hy hyw => ?_, by omega, by omega, fun h y hy => ?_⟩
      · rw [take_snoc hk]; exact List.Sublist.trans e3 (List.sublist_append_left _ _)
      · rw [take_snoc hk] at hy
        rcases List.mem_append.1 hy with hy | hy
        · exact e5 y hy hyw
        · rw [List.mem_singleton.1 hy] at hyw; exact absurd hyw hw
      · rw [take_snoc hk] at hy
        rcases List.mem_append.1 hy with hy | hy
        · exact e8 h y hy
        · rw [List.mem_singleton.1 hy]; exact hw) (by
    rintro ⟨a, b, c⟩ ⟨e0, s', ks, e1, e2, e3, e4, e5, e6, e7, e8⟩
    dsimp only at e0 e1 e2
    subst e0 e1 e2
    rw [List.take_length] at e3 e5 e8
    unfold ring_Halves_L3
    dsimp only
    rw [if_false' (dec_f (by omega))]
    exact ⟨_, rfl, .inl ⟨s', ks, rfl, e3, e4, e5, e6, e7, e8⟩⟩)
  exact ⟨z, z1, z2⟩
end Go.Proofs.Ytiddimfepemohaa.Rg
