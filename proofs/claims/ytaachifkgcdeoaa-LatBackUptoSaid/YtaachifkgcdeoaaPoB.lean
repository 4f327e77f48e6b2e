/- Sets that have all that is ahead. -/
import Derived.Test.YtaachifkgcdeoaaPoA
open Go Go.Proofs.Ytaachifkgcdeoaa.Sy Go.Proofs.Ytaachifkgcdeoaa.Pu
set_option linter.unusedVariables false
set_option linter.unusedSimpArgs false
namespace Go.Proofs.Ytaachifkgcdeoaa.Lt
def dnB (r : Nat → Nat → Bool) (n s : Nat) : Bool := (List.range n).all fun k => !s.testBit k || (List.range n).all fun a => !r a k || s.testBit a
theorem dnB_iff {r : Nat → Nat → Bool} {n s : Nat} : dnB r n s = true ↔ ∀ k, k < n → s.testBit k = true → ∀ a, a < n → r a k = true → s.testBit a = true := by
  unfold dnB
  rw [List.all_eq_true]
  constructor
  · intro h k hk h1 a ha h2
    have := h k (List.mem_range.2 hk)
    rw [Bool.or_eq_true, h1] at this
    rcases this with h3 | h3
    · cases h3
    · have := List.all_eq_true.1 h3 a (List.mem_range.2 ha)
      rw [h2] at this
      simpa using this
  · intro h k hk
    rw [List.mem_range] at hk
    cases h1 : s.testBit k with
    | false => rfl
    | true =>
      rw [Bool.or_eq_true]
      right
      rw [List.all_eq_true]
      intro a ha
      rw [List.mem_range] at ha
      cases h2 : r a k with
      | false => rfl
      | true => rw [h k hk h1 a ha h2]; rfl
def downs (r : Nat → Nat → Bool) (n : Nat) : List Nat := (List.range (2 ^ n)).filter (dnB r n)
theorem mem_downs {r : Nat → Nat → Bool} {n s : Nat} : s ∈ downs r n ↔ s < 2 ^ n ∧ ∀ k, k < n → s.testBit k = true → ∀ a, a < n → r a k = true → s.testBit a = true := by
  unfold downs
  rw [List.mem_filter, List.mem_range, dnB_iff]
theorem bit64 {n q : Nat} (hn : n ≤ 65535) (hq : q ≤ 60) : arR .and .i64 (arR .shr .i64 (n : Int) (q : Int)) (1 : Int) = if n.testBit q = true then 1 else 0 := by
  have hd : n / 2 ^ q ≤ n := Nat.div_le_self _ _
  rw [shr_N (k := .i64) (by show q ≤ 64; omega), show arR .and .i64 ((n / 2 ^ q : Nat) : Int) (1 : Int) = ((n / 2 ^ q &&& 1 : Nat) : Int) from and_N (k := .i64) (b := 1) (by show ((n / 2 ^ q : Nat) : Int) ≤ 9223372036854775807; omega) (by decide), Nat.and_one_is_mod, Nat.testBit_eq_decide_div_mod_eq]
  by_cases e : n / 2 ^ q % 2 = 1
  · rw [decide_eq_true e, e]; rfl
  · rw [decide_eq_false e, show n / 2 ^ q % 2 = 0 by omega]; rfl
theorem wrap16 {n : Nat} (h : n ≤ 65535) : IntKind.wrap .u16 (n : Int) = (n : Int) := Go.Proofs.Ytaachifkgcdeoaa.Sy.wrap_id ⟨by show (0 : Int) ≤ _; omega, by rw [max16]; omega⟩
theorem bit_pow {a i : Nat} : (2 ^ a).testBit i = true ↔ i = a := by
  rw [Nat.testBit_two_pow]
  simp
  exact eq_comm
theorem downs_ok {n : Nat} (hn : n ≤ 12) {ps : List PR} (h : Po n ps) : lat_Downs ((n : Int), ps, ()) = some (toI (downs (W ps n) n), 0) := by
  obtain ⟨L, l1, l2, l3, l4⟩ := close_ok h
  have h2n : 2 ^ n ≤ 4096 := Nat.le_trans (Nat.pow_le_pow_right (by decide) hn) (by decide)
  unfold lat_Downs
  rw [bind_of l1, if_false' (by rfl), if_false' (dec_f (by dsimp only; omega)), letO_def, letO_def]
  -- what each needs
  obtain ⟨q, q1, q2, q3⟩ := loop_count (B := fun x : List Int × Int => lat_Downs_L1 (L, (0 : Int)) (L.length : Int) x.1 x.2) (fun k x => x.2 = (k : Int) ∧ x.1.length = 12 ∧ ∀ b, b < 12 → ∃ m : Nat, x.1.getD b 0 = (m : Int) ∧ m < 4096 ∧ ∀ a, m.testBit a = true ↔ ((a : Int), (b : Int), ()) ∈ L.take k) L.length (fun q => q.length = 12 ∧ ∀ b, b < 12 → ∃ m : Nat, q.getD b 0 = (m : Int) ∧ m < 4096 ∧ ∀ a, m.testBit a = true ↔ ((a : Int), (b : Int), ()) ∈ L) (x := (List.replicate 12 (0 : Int), (0 : Int))) ⟨rfl, by simp, fun b hb => ⟨0, by dsimp only; rw [getD_rep]; rfl, by decide, fun a => by simp⟩⟩ (by
    rintro k ⟨q, kk⟩ hk ⟨e1, e2, e3⟩
    dsimp only at e1 e2 e3
    subst e1
    obtain ⟨a, b, ha, hb, hw, hx⟩ := (l4 _).1 (mem_getD' (d := ((0 : Int), (0 : Int), ())) hk)
    obtain ⟨m, m1, m2, m3⟩ := e3 b (by omega)
    have hpa : 2 ^ a ≤ 2 ^ 11 := Nat.pow_le_pow_right (by decide) (by omega)
    have e11 : (2 : Nat) ^ 11 = 2048 := rfl
    have hsh : arR .shl .u16 (1 : Int) (a : Int) = ((2 ^ a : Nat) : Int) := by
      have := shl_N (k := .u16) (a := 1) (n := a) (by show a ≤ 16; omega) (by rw [max16, Nat.one_mul]; omega)
      rw [Nat.one_mul] at this
      exact this
    unfold lat_Downs_L1
    dsimp only
    rw [if_true' (dec_t (by omega)), ck_in (by omega), letO_def, Int.toNat_natCast, hx]
    dsimp only
    rw [ck_in (by omega), ck_in (by omega), ck_in (by omega), letO_def, inc64 (by omega), Int.toNat_natCast, m1, hsh, or_N (k := .u16) (by rw [max16]; omega) (by rw [max16]; omega)]
    refine ⟨_, rfl, rfl, by simpa using e2, fun b' hb' => ?_⟩
    dsimp only
    rw [getD_setD (by omega), List.take_add_one, List.getElem?_eq_getElem hk, ← getD_lt (d := ((0 : Int), (0 : Int), ())) hk, hx]
    by_cases e : b' = b
    · subst e
      refine ⟨m ||| 2 ^ a, by rw [if_pos rfl], Nat.or_lt_two_pow (n := 12) m2 (by omega), fun a' => ?_⟩
      rw [Nat.testBit_or, Bool.or_eq_true, m3, bit_pow, List.mem_append]
      simp only [Option.toList, List.mem_singleton, Prod.mk.injEq, and_true]
      constructor
      · rintro (h | h)
        · exact .inl h
        · exact .inr (by omega)
      · rintro (h | h)
        · exact .inl h
        · exact .inr (by omega)
    · obtain ⟨m', m1', m2', m3'⟩ := e3 b' hb'
      refine ⟨m', by rw [if_neg e]; exact m1', m2', fun a' => ?_⟩
      rw [m3', List.mem_append]
      simp only [Option.toList, List.mem_singleton, Prod.mk.injEq, and_true]
      constructor
      · exact .inl
      · rintro (h | h)
        · exact h
        · exact absurd (by omega) e) (by
    rintro ⟨q, kk⟩ ⟨e1, e2, e3⟩
    dsimp only at e1 e2 e3
    subst e1
    unfold lat_Downs_L1
    dsimp only
    rw [if_false' (dec_f (by omega))]
    exact ⟨_, rfl, e2, fun b hb => by
      obtain ⟨m, m1, m2, m3⟩ := e3 b hb
      exact ⟨m, m1, m2, fun a => by rw [m3 a, List.take_length]⟩⟩)
  have q4 : ∀ b, b < n → ∃ m : Nat, q.getD b 0 = (m : Int) ∧ m < 4096 ∧ ∀ a, m.testBit a = true ↔ a < n ∧ W ps n a b = true := fun b hb => by
    obtain ⟨m, m1, m2, m3⟩ := q3 b (by omega)
    refine ⟨m, m1, m2, fun a => ?_⟩
    rw [m3 a, l4]
    constructor
    · rintro ⟨a', b', h1, h2, h3, h4⟩
      simp only [Prod.mk.injEq, and_true] at h4
      rw [show a = a' by omega, show b = b' by omega]
      exact ⟨h1, h3⟩
    · rintro ⟨h1, h2⟩
      exact ⟨a, b, h1, hb, h2, rfl⟩
  have hshl : arR .shl .i64 (1 : Int) (n : Int) = ((2 ^ n : Nat) : Int) := by
    have := shl_N (k := .i64) (a := 1) (n := n) (by show n ≤ 64; omega) (by rw [Nat.one_mul]; show ((2 ^ n : Nat) : Int) ≤ 9223372036854775807; omega)
    rw [Nat.one_mul] at this
    exact this
  dsimp only
  rw [bind_of q1, ck_in (by omega), hshl, letO_def]
  have hB : ∀ s : Nat, s < 2 ^ n → loopO (fun x : Bool × Int => lat_Downs_L3 ((n : Int), ps, ()) q (s : Int) x.1 x.2) (true, (0 : Int)) = some (dnB (W ps n) n s) := by
    intro s hs
    obtain ⟨z, z1, z2⟩ := loop_count (B := fun x : Bool × Int => lat_Downs_L3 ((n : Int), ps, ()) q (s : Int) x.1 x.2) (fun k x => x.2 = (k : Int) ∧ (x.1 = true ↔ ∀ j, j < k → s.testBit j = true → ∀ a, a < n → W ps n a j = true → s.testBit a = true)) n (fun z => z = true ↔ ∀ k, k < n → s.testBit k = true → ∀ a, a < n → W ps n a k = true → s.testBit a = true) (x := (true, (0 : Int))) ⟨rfl, fun _ j hj => by omega, fun _ => rfl⟩ (by
      rintro k ⟨b, kk⟩ hk ⟨e1, e2⟩
      dsimp only at e1 e2
      subst e1
      obtain ⟨m, m1, m2, m3⟩ := q4 k hk
      unfold lat_Downs_L3
      dsimp only
      rw [if_true' (dec_t (by omega)), ck_in (by intro _; omega), ck_in (by intro _ _; omega), ck_in (by intro _ _; omega), letO_def, inc64 (by omega), Int.toNat_natCast, m1, bit64 (by omega) (by omega), wrap16 (by omega), and_N (k := .u16) (by rw [max16]; omega) (by rw [max16]; omega)]
      refine ⟨_, rfl, rfl, ?_⟩
      dsimp only
      rw [Bool.and_eq_true, e2, Bool.or_eq_true, beq_iff_eq, beq_iff_eq]
      constructor
      · rintro ⟨h1, h2⟩ j hj hb a ha hw
        by_cases ej : j = k
        · subst ej
          rcases h2 with h2 | h2
          · rw [if_pos hb] at h2; exact absurd h2 (by decide)
          · have h3 : m &&& s = m := by rw [Nat.and_comm]; exact Int.ofNat.inj h2
            exact sub_iff.1 h3 a ((m3 a).2 ⟨ha, hw⟩)
        · exact h1 j (by omega) hb a ha hw
      · intro hall
        refine ⟨fun j hj => hall j (by omega), ?_⟩
        by_cases hb : s.testBit k = true
        · right
          have h3 : m &&& s = m := sub_iff.2 fun a ha => hall k (by omega) hb a ((m3 a).1 ha).1 ((m3 a).1 ha).2
          rw [Nat.and_comm, h3]
        · left
          rw [if_neg hb]) (by
      rintro ⟨b, kk⟩ ⟨e1, e2⟩
      dsimp only at e1 e2
      subst e1
      unfold lat_Downs_L3
      dsimp only
      rw [if_false' (dec_f (by omega))]
      exact ⟨_, rfl, e2⟩)
    rw [z1]
    congr 1
    rw [Bool.eq_iff_iff, z2, dnB_iff]
  have hout : loopO (fun x : List Int × Int => lat_Downs_L2 ((n : Int), ps, ()) q ((2 ^ n : Nat) : Int) x.1 x.2) (([] : List Int), (0 : Int)) = some (toI (downs (W ps n) n)) := by
    refine loop_from (fun s => (toI ((List.range s).filter (dnB (W ps n) n)), (s : Int))) (2 ^ n) rfl (fun s hs => ?_) ?_
    · have hlen : ((List.range s).filter (dnB (W ps n) n)).length ≤ s := by
        have := List.length_filter_le (dnB (W ps n) n) (List.range s)
        rw [List.length_range] at this
        exact this
      unfold lat_Downs_L2 lat_Downs_J4
      dsimp only
      rw [if_true' (dec_t (by omega)), bind_of (hB s hs), wrap16 (by omega), inc64 (by omega), List.range_succ, List.filter_append]
      cases hd : dnB (W ps n) n s with
      | true =>
        rw [if_true' rfl, ck_in (le_maxL (by rw [toI_len]; simp only [List.length_cons, List.length_nil]; omega)), List.filter_cons_of_pos hd]
        simp [toI]
      | false =>
        rw [if_false' rfl, List.filter_cons_of_neg (by rw [hd]; simp)]
        simp [toI]
    · unfold lat_Downs_L2
      dsimp only
      rw [if_false' (dec_f (by omega))]
      rfl
  rw [bind_of hout]
theorem downs_no {N : Int} {ps : List PR} (hl : ps.length ≤ 4294967296) : (∃ n : Nat, N = (n : Int) ∧ n ≤ 12 ∧ Po n ps) ∨ ∃ c, lat_Downs (N, ps, ()) = some ([], c) ∧ c ≠ 0 := by
  by_cases h : 0 ≤ N ∧ Po N.toNat ps
  · obtain ⟨n, rfl⟩ : ∃ n : Nat, N = (n : Int) := ⟨N.toNat, by omega⟩
    rw [Int.toNat_natCast] at h
    by_cases hn : n ≤ 12
    · exact .inl ⟨n, rfl, hn, h.2⟩
    · right
      obtain ⟨L, l1, _⟩ := close_ok h.2
      refine ⟨2, ?_, by decide⟩
      unfold lat_Downs
      rw [bind_of l1, if_false' (by rfl), if_true' (dec_t (by dsimp only; omega))]
  · right
    obtain ⟨c, c1, c2⟩ := close_no hl h
    refine ⟨c, ?_, c2⟩
    unfold lat_Downs
    rw [bind_of c1, if_true' (by rw [bne_iff_ne]; exact c2)]
end Go.Proofs.Ytaachifkgcdeoaa.Lt
