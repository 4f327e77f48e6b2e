/- Loops that look for the first element of a kind; loops over all elements. -/
import Derived.Test.YtaachifkgcdeoaaPure1
open Go Go.Proofs.Ytaachifkgcdeoaa.Sy
set_option linter.unusedVariables false
set_option linter.unusedSimpArgs false
namespace Go.Proofs.Ytaachifkgcdeoaa.Pu
/-- The first place from k on that has it, or the end. -/
theorem find_from {α Z : Type} {B : Int → Option (Int ⊕ Z)} {l : List α} {d : α} {P : α → Bool} {g : Nat → Z} {e : Z} (hB : ∀ k, k < l.length → B (k : Int) = if P (l.getD k d) = true then some (.inr (g k)) else some (.inl ((k + 1 : Nat) : Int))) (he : B (l.length : Int) = some (.inr e)) :
    ∀ m k, k + m = l.length → loopO B (k : Int) = some (match (l.drop k).findIdx? P with
      | some j => g (k + j)
      | none => e)
  | 0, k, h => by
    rw [show k = l.length by omega, List.drop_length]
    exact loopO_done he
  | m + 1, k, h => by
    have hk : k < l.length := by omega
    have hd : l.drop k = l.getD k d :: l.drop (k + 1) := by rw [List.drop_eq_getElem_cons hk, getD_lt hk]
    rw [hd, List.findIdx?_cons]
    have hb := hB k hk
    by_cases hp : P (l.getD k d) = true
    · rw [if_pos hp] at hb ⊢
      exact loopO_done hb
    · rw [if_neg hp] at hb ⊢
      rw [loopO_next hb, find_from hB he m (k + 1) (by omega)]
      cases (l.drop (k + 1)).findIdx? P with
      | none => rfl
      | some j => simp [show k + 1 + j = k + (j + 1) by omega]
theorem find_loop {α Z : Type} {B : Int → Option (Int ⊕ Z)} {l : List α} {d : α} {P : α → Bool} {g : Nat → Z} {e : Z} (hB : ∀ k, k < l.length → B (k : Int) = if P (l.getD k d) = true then some (.inr (g k)) else some (.inl ((k + 1 : Nat) : Int))) (he : B (l.length : Int) = some (.inr e)) :
    loopO B (0 : Int) = some (match l.findIdx? P with
      | some j => g j
      | none => e) := by
  have := find_from hB he l.length 0 (by omega)
  simpa using this
theorem find_none {α : Type} {l : List α} {P : α → Bool} (h : ∀ x ∈ l, P x = false) : l.findIdx? P = none := by
  rw [List.findIdx?_eq_none_iff]; exact h
theorem find_some {α : Type} {l : List α} {P : α → Bool} {x : α} (hx : x ∈ l) (hp : P x = true) : ∃ j, l.findIdx? P = some j ∧ j < l.length := by
  cases h : l.findIdx? P with
  | none => rw [List.findIdx?_eq_none_iff] at h; rw [h x hx] at hp; cases hp
  | some j => exact ⟨j, rfl, (List.findIdx?_eq_some_iff_getElem.1 h).1⟩
theorem find_at {α : Type} {l : List α} {P : α → Bool} {j : Nat} {d : α} (h : l.findIdx? P = some j) : j < l.length ∧ P (l.getD j d) = true ∧ ∀ i, i < j → P (l.getD i d) = false := by
  obtain ⟨h1, h2, h3⟩ := List.findIdx?_eq_some_iff_getElem.1 h
  refine ⟨h1, by rw [getD_lt h1]; exact h2, fun i hi => ?_⟩
  rw [getD_lt (by omega)]
  simpa using h3 i hi
theorem mem_getD' {α : Type} {l : List α} {k : Nat} {d : α} (hk : k < l.length) : l.getD k d ∈ l := by rw [getD_lt hk]; exact List.getElem_mem hk
/-- A loop over all elements, none of which ends it. -/
theorem all_loop {α Z : Type} {B : Int → Option (Int ⊕ Z)} {l : List α} {d : α} {e : Z} (hB : ∀ k, k < l.length → B (k : Int) = some (.inl ((k + 1 : Nat) : Int))) (he : B (l.length : Int) = some (.inr e)) : loopO B (0 : Int) = some e :=
  loop_from (fun k : Nat => (k : Int)) l.length rfl hB he
theorem count_loop {Z : Type} {B : Int → Option (Int ⊕ Z)} (n : Nat) {e : Z} (hB : ∀ k, k < n → B (k : Int) = some (.inl ((k + 1 : Nat) : Int))) (he : B (n : Int) = some (.inr e)) : loopO B (0 : Int) = some e :=
  loop_from (fun k : Nat => (k : Int)) n rfl hB he
/-! ### Maps -/
theorem mget_same {kt vt : PT} (h : eqOk kt = true) (m : List (kt.den × vt.den)) (k : kt.den) (v : vt.den) : mgetL kt vt (msetL kt vt m k v) k = v := by
  induction m with
  | nil => simp [msetL, mgetL, (eqb_iff kt h k k).2 rfl]
  | cons e m ih =>
    obtain ⟨k', v'⟩ := e
    simp only [msetL]
    split
    · simp [mgetL, (eqb_iff kt h k k).2 rfl]
    · rename_i hn
      simp only [mgetL, if_neg hn, ih]
theorem mget_other {kt vt : PT} (h : eqOk kt = true) (m : List (kt.den × vt.den)) (k : kt.den) (v : vt.den) {k' : kt.den} (hk : k' ≠ k) : mgetL kt vt (msetL kt vt m k v) k' = mgetL kt vt m k' := by
  have hne : ¬ kt.eqb k' k = true := fun e => hk ((eqb_iff kt h k' k).1 e)
  induction m with
  | nil => simp [msetL, mgetL, hne]
  | cons e m ih =>
    obtain ⟨k0, v0⟩ := e
    simp only [msetL]
    split
    · rename_i he
      have := (eqb_iff kt h k k0).1 he
      subst this
      simp only [mgetL, if_neg hne]
    · simp only [mgetL, ih]

/-! ### Lists of numbers that are not negative -/
abbrev toI (ns : List Nat) : List Int := ns.map fun n : Nat => (n : Int)
theorem toI_len (ns : List Nat) : (toI ns).length = ns.length := by simp
theorem toI_getD (ns : List Nat) (k : Nat) : (toI ns).getD k 0 = ((ns.getD k 0 : Nat) : Int) := by
  simp only [List.getD_eq_getElem?_getD, List.getElem?_map]
  cases ns[k]? <;> rfl
theorem toI_app (a b : List Nat) : toI a ++ toI b = toI (a ++ b) := by simp
theorem toI_inj {a b : List Nat} (h : toI a = toI b) : a = b := by
  exact (List.map_inj_right (fun x y h => Int.ofNat.inj h)).1 h
theorem toI_of {l : List Int} (h : ∀ x ∈ l, 0 ≤ x) : ∃ ns, l = toI ns := by
  refine ⟨l.map Int.toNat, ?_⟩
  rw [toI, List.map_map]
  conv => lhs; rw [← List.map_id l]
  apply List.map_congr_left
  intro x hx
  have := h x hx
  simp only [id, Function.comp]
  omega
theorem toI_mem {a : Nat} {ns : List Nat} : ((a : Nat) : Int) ∈ toI ns ↔ a ∈ ns := by
  simp only [List.mem_map]
  constructor
  · rintro ⟨b, h1, h2⟩
    have : b = a := by exact_mod_cast h2
    rwa [← this]
  · intro h; exact ⟨a, h, rfl⟩
theorem toI_drop (ns : List Nat) (k : Nat) : (toI ns).drop k = toI (ns.drop k) := by simp
theorem toI_take (ns : List Nat) (k : Nat) : (toI ns).take k = toI (ns.take k) := by simp

/-- A comparison of two lists, element by element. -/
theorem eq_loop {α : Type} (a b : List α) (d : α) {B : Int → Option (Int ⊕ (Unit ⊕ Bool))} (hl : a.length = b.length) (hB : ∀ k, k < a.length → (a.getD k d = b.getD k d → B (k : Int) = some (.inl ((k + 1 : Nat) : Int))) ∧ (a.getD k d ≠ b.getD k d → B (k : Int) = some (.inr (.inr false)))) (he : B (a.length : Int) = some (.inr (.inl ()))) :
    (a = b → loopO B (0 : Int) = some (.inl ())) ∧ (a ≠ b → loopO B (0 : Int) = some (.inr false)) := by
  refine ⟨fun e => all_loop (l := a) (d := d) (fun k hk => (hB k hk).1 (by rw [e])) he, fun e => ?_⟩
  obtain ⟨z, h1, h2⟩ := loop_countE (B := B) (fun k x => x = (k : Int) ∧ ∃ j, k ≤ j ∧ j < a.length ∧ a.getD j d ≠ b.getD j d) a.length (fun z => z = .inr false) (x := (0 : Int)) ⟨rfl, by
      refine Classical.byContradiction fun hn => e (ext_getD d hl fun j hj => ?_)
      exact Classical.byContradiction fun hne => hn ⟨j, by omega, hj, hne⟩⟩ (by
      rintro k x hk ⟨rfl, j, j1, j2, j3⟩
      by_cases ek : a.getD k d = b.getD k d
      · refine .inl ⟨_, (hB k hk).1 ek, rfl, j, ?_, j2, j3⟩
        by_cases ejk : j = k
        · subst ejk; exact absurd ek j3
        · omega
      · exact .inr ⟨_, (hB k hk).2 ek, rfl⟩) (by
      rintro x ⟨rfl, j, j1, j2, j3⟩
      omega)
  rw [h1, h2]
end Go.Proofs.Ytaachifkgcdeoaa.Pu
