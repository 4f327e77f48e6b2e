/- All vectors in a box, in their order. -/
import Derived.Test.YtdahfpfkjljojaaPure2
open Go Go.Proofs.Ytdahfpfkjljojaa.Sy
set_option linter.unusedVariables false
set_option linter.unusedSimpArgs false
namespace Go.Proofs.Ytdahfpfkjljojaa.Pu
def boxN : List Nat → Nat
  | [] => 1
  | n :: ns => (n + 1) * boxN ns
def dec : List Nat → Nat → List Int
  | [], _ => []
  | _ :: ns, k => ((k / boxN ns : Nat) : Int) :: dec ns (k % boxN ns)
theorem box_pos : ∀ ns, 0 < boxN ns
  | [] => by decide
  | n :: ns => Nat.mul_pos (by omega) (box_pos ns)
theorem dec_len : ∀ ns k, (dec ns k).length = ns.length
  | [], _ => rfl
  | n :: ns, k => by simp [dec, dec_len ns]
theorem dec_rng : ∀ ns k, k < boxN ns → ∀ j, j < ns.length → 0 ≤ (dec ns k).getD j 0 ∧ (dec ns k).getD j 0 ≤ (ns.getD j 0 : Nat)
  | [], _, _, j, hj => by simp at hj
  | n :: ns, k, hk, j, hj => by
    cases j with
    | zero =>
      have h1 : k / boxN ns < n + 1 := Nat.div_lt_of_lt_mul (by rw [Nat.mul_comm]; exact hk)
      exact ⟨Int.natCast_nonneg _, Int.ofNat_le.2 (show k / boxN ns ≤ n by omega)⟩
    | succ j => exact dec_rng ns (k % boxN ns) (Nat.mod_lt _ (box_pos ns)) j (by simpa using hj)
theorem dec_zero : ∀ ns j, (dec ns 0).getD j 0 = 0
  | [], j => by simp [dec]
  | n :: ns, 0 => by simp [dec]
  | n :: ns, j + 1 => by
    show (dec ns (0 % boxN ns)).getD j 0 = 0
    rw [Nat.zero_mod]; exact dec_zero ns j
theorem dec_surj : ∀ (ns : List Nat) (cs : List Int), cs.length = ns.length → (∀ j, j < ns.length → 0 ≤ cs.getD j 0 ∧ cs.getD j 0 ≤ (ns.getD j 0 : Nat)) → ∃ k, k < boxN ns ∧ dec ns k = cs
  | [], cs, hl, _ => ⟨0, by decide, by have : cs = [] := List.eq_nil_of_length_eq_zero hl; rw [this]; rfl⟩
  | n :: ns, [], hl, _ => by simp at hl
  | n :: ns, a :: cs, hl, h => by
    obtain ⟨k, hk, e⟩ := dec_surj ns cs (by simpa using hl) (fun j hj => h (j + 1) (by simp; omega))
    have h0 : 0 ≤ a ∧ a ≤ (n : Nat) := h 0 (by simp)
    have hp := box_pos ns
    refine ⟨boxN ns * a.toNat + k, ?_, ?_⟩
    · have h1 : boxN ns * a.toNat ≤ boxN ns * n := Nat.mul_le_mul_left _ (by omega)
      show _ < (n + 1) * boxN ns
      rw [Nat.add_mul, Nat.mul_comm n]
      omega
    · show ((_ / boxN ns : Nat) : Int) :: dec ns (_ % boxN ns) = _
      rw [Nat.mul_add_div hp, Nat.div_eq_of_lt hk, Nat.mul_add_mod, Nat.mod_eq_of_lt hk, e]
      congr 1
      omega
theorem dec_next : ∀ (ns : List Nat) (k : Nat), k < boxN ns →
    (k + 1 < boxN ns ∧ ∃ p, p < ns.length ∧ (dec ns k).getD p 0 ≠ (ns.getD p 0 : Nat) ∧ (∀ j, p < j → j < ns.length → (dec ns k).getD j 0 = (ns.getD j 0 : Nat)) ∧ (∀ j, j < p → (dec ns (k + 1)).getD j 0 = (dec ns k).getD j 0) ∧ (dec ns (k + 1)).getD p 0 = (dec ns k).getD p 0 + 1 ∧ ∀ j, p < j → (dec ns (k + 1)).getD j 0 = 0) ∨
    (k + 1 = boxN ns ∧ ∀ j, j < ns.length → (dec ns k).getD j 0 = (ns.getD j 0 : Nat))
  | [], k, hk => .inr ⟨by show k + 1 = 1; have : k < 1 := hk; omega, fun j hj => by simp at hj⟩
  | n :: ns, k, hk => by
    have hp := box_pos ns
    have hk' : k < (n + 1) * boxN ns := hk
    have hm := Nat.mod_lt k hp
    have hd := Nat.div_add_mod k (boxN ns)
    have ha : k / boxN ns < n + 1 := Nat.div_lt_of_lt_mul (by rw [Nat.mul_comm]; exact hk')
    rcases dec_next ns (k % boxN ns) hm with ⟨h1, p, p1, p2, p3, p4, p5, p6⟩ | ⟨h1, h2⟩
    · have e1 : (k + 1) / boxN ns = k / boxN ns := by
        rw [show k + 1 = boxN ns * (k / boxN ns) + (k % boxN ns + 1) by omega, Nat.mul_add_div hp, Nat.div_eq_of_lt h1]
        rfl
      have e2 : (k + 1) % boxN ns = k % boxN ns + 1 := by
        rw [show k + 1 = boxN ns * (k / boxN ns) + (k % boxN ns + 1) by omega, Nat.mul_add_mod, Nat.mod_eq_of_lt h1]
      refine .inl ⟨?_, p + 1, by simp; omega, p2, fun j j1 j2 => ?_, fun j j1 => ?_, ?_, fun j j1 => ?_⟩
      · show k + 1 < (n + 1) * boxN ns
        have : boxN ns * (k / boxN ns) ≤ boxN ns * n := Nat.mul_le_mul_left _ (by omega)
        rw [Nat.add_mul, Nat.mul_comm n]
        omega
      · cases j with
        | zero => omega
        | succ j => exact p3 j (by omega) (by simpa using j2)
      · cases j with
        | zero => show (((k + 1) / boxN ns : Nat) : Int) = ((k / boxN ns : Nat) : Int); rw [e1]
        | succ j =>
          show (dec ns ((k + 1) % boxN ns)).getD j 0 = (dec ns (k % boxN ns)).getD j 0
          rw [e2]; exact p4 j (by omega)
      · show (dec ns ((k + 1) % boxN ns)).getD p 0 = (dec ns (k % boxN ns)).getD p 0 + 1
        rw [e2]; exact p5
      · cases j with
        | zero => omega
        | succ j =>
          show (dec ns ((k + 1) % boxN ns)).getD j 0 = 0
          rw [e2]; exact p6 j (by omega)
    · have e0 : k + 1 = boxN ns * (k / boxN ns + 1) := by rw [Nat.mul_add]; omega
      have e1 : (k + 1) / boxN ns = k / boxN ns + 1 := by rw [e0, Nat.mul_div_cancel_left _ hp]
      have e2 : (k + 1) % boxN ns = 0 := by rw [e0, Nat.mul_mod_right]
      by_cases h3 : k / boxN ns = n
      · refine .inr ⟨?_, fun j hj => ?_⟩
        · show k + 1 = (n + 1) * boxN ns
          rw [e0, h3, Nat.mul_comm]
        · cases j with
          | zero => show ((k / boxN ns : Nat) : Int) = (n : Nat); rw [h3]
          | succ j => exact h2 j (by simpa using hj)
      · refine .inl ⟨?_, 0, by simp, ?_, fun j j1 j2 => ?_, fun j j1 => by omega, ?_, fun j j1 => ?_⟩
        · show k + 1 < (n + 1) * boxN ns
          rw [e0, Nat.mul_comm (n + 1)]
          exact Nat.mul_lt_mul_of_pos_left (by omega) hp
        · show ((k / boxN ns : Nat) : Int) ≠ (n : Nat)
          omega
        · cases j with
          | zero => omega
          | succ j => exact h2 j (by simpa using j2)
        · show (((k + 1) / boxN ns : Nat) : Int) = ((k / boxN ns : Nat) : Int) + 1
          rw [e1]; omega
        · cases j with
          | zero => omega
          | succ j =>
            show (dec ns ((k + 1) % boxN ns)).getD j 0 = 0
            rw [e2]; exact dec_zero ns j
theorem dec_lt : ∀ (ns : List Nat) (a b p : Nat), a < boxN ns → b < boxN ns → p < ns.length → (∀ j, j < p → (dec ns a).getD j 0 = (dec ns b).getD j 0) → (dec ns a).getD p 0 < (dec ns b).getD p 0 → a < b
  | [], _, _, p, _, _, hp, _, _ => by simp at hp
  | n :: ns, a, b, p, ha, hb, hp, h1, h2 => by
    have hq := box_pos ns
    have da := Nat.div_add_mod a (boxN ns)
    have db := Nat.div_add_mod b (boxN ns)
    have ma := Nat.mod_lt a hq
    have mb := Nat.mod_lt b hq
    cases p with
    | zero =>
      have h3 : a / boxN ns < b / boxN ns := by
        have : ((a / boxN ns : Nat) : Int) < ((b / boxN ns : Nat) : Int) := h2
        omega
      have h4 : boxN ns * (a / boxN ns + 1) ≤ boxN ns * (b / boxN ns) := Nat.mul_le_mul_left _ h3
      rw [Nat.mul_add] at h4
      omega
    | succ p =>
      have h3 : a / boxN ns = b / boxN ns := by
        have : ((a / boxN ns : Nat) : Int) = ((b / boxN ns : Nat) : Int) := h1 0 (by omega)
        omega
      have h4 := dec_lt ns (a % boxN ns) (b % boxN ns) p ma mb (by simpa using hp) (fun j hj => h1 (j + 1) (by omega)) h2
      rw [h3] at da
      omega
theorem dec_top (ns : List Nat) : ∀ j, j < ns.length → (dec ns (boxN ns - 1)).getD j 0 = (ns.getD j 0 : Nat) := by
  have hp := box_pos ns
  rcases dec_next ns (boxN ns - 1) (by omega) with ⟨h1, _⟩ | ⟨_, h2⟩
  · omega
  · exact h2
theorem nodup_len {α : Type} (ks L : List α) (hn : ks.Nodup) (h : ∀ x ∈ ks, x ∈ L) : ks.length ≤ L.length := hn.length_le_of_subset h
theorem exists_min {P : Nat → Prop} (h : ∃ n, P n) : ∃ n, P n ∧ ∀ m, m < n → ¬ P m := by
  obtain ⟨n, hn⟩ := h
  induction n using Nat.strongRecOn with
  | ind n ih =>
    by_cases h : ∃ m, m < n ∧ P m
    · obtain ⟨m, h1, h2⟩ := h
      exact ih m h1 h2
    · exact ⟨n, hn, fun m hm hp => h ⟨m, hm, hp⟩⟩
end Go.Proofs.Ytdahfpfkjljojaa.Pu
