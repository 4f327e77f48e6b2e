/- BIRKHOFF: the firm sets of all sets that have all that is ahead are in the same order. -/
import Derived.Test.YtaachifkgcdeoaaPoB
open Go Go.Proofs.Ytaachifkgcdeoaa.Sy Go.Proofs.Ytaachifkgcdeoaa.Pu
set_option linter.unusedVariables false
set_option linter.unusedSimpArgs false
namespace Go.Proofs.Ytaachifkgcdeoaa.Lt
def mkN (P : Nat → Bool) : Nat → Nat
  | 0 => 0
  | n + 1 => mkN P n ||| (if P n = true then 2 ^ n else 0)
theorem mkN_lt (P : Nat → Bool) : ∀ n, mkN P n < 2 ^ n
  | 0 => Nat.zero_lt_one
  | n + 1 => by
    have h1 := mkN_lt P n
    have h2 : 2 ^ n < 2 ^ (n + 1) := Nat.pow_lt_pow_right (by decide) (by omega)
    refine Nat.or_lt_two_pow (by omega) ?_
    split
    · exact h2
    · exact Nat.two_pow_pos _
theorem mkN_bit (P : Nat → Bool) (i : Nat) : ∀ n, (mkN P n).testBit i = true ↔ i < n ∧ P i = true
  | 0 => by simp [mkN]
  | n + 1 => by
    simp only [mkN]
    rw [Nat.testBit_or, Bool.or_eq_true, mkN_bit P i n]
    by_cases h : P n = true
    · rw [if_pos h, bit_pow]
      constructor
      · rintro (⟨h1, h2⟩ | rfl)
        · exact ⟨by omega, h2⟩
        · exact ⟨by omega, h⟩
      · rintro ⟨h1, h2⟩
        by_cases e : i = n
        · exact .inr e
        · exact .inl ⟨by omega, h2⟩
    · rw [if_neg h]
      constructor
      · rintro (⟨h1, h2⟩ | h1)
        · exact ⟨by omega, h2⟩
        · simp at h1
      · rintro ⟨h1, h2⟩
        by_cases e : i = n
        · rw [e] at h2; exact absurd h2 h
        · exact .inl ⟨by omega, h2⟩
theorem bits_eq {n a b : Nat} (ha : a < 2 ^ n) (hb : b < 2 ^ n) (h : ∀ i, i < n → (a.testBit i = true ↔ b.testBit i = true)) : a = b := by
  apply Nat.eq_of_testBit_eq
  intro i
  by_cases hi : i < n
  · rw [Bool.eq_iff_iff]; exact h i hi
  · have h1 : 2 ^ n ≤ 2 ^ i := Nat.pow_le_pow_right (by decide) (by omega)
    rw [Nat.testBit_lt_two_pow (by omega), Nat.testBit_lt_two_pow (by omega)]
theorem downs_nodup (r : Nat → Nat → Bool) (n : Nat) : (downs r n).Nodup := by
  unfold downs
  exact (List.nodup_range).filter _
/-- A row sent one to one into another one is no longer. -/
theorem inj_len {α β : Type} {A : List α} {B : List β} (hA : A.Nodup) (f : α → β) (hin : ∀ x ∈ A, f x ∈ B) (hinj : ∀ x ∈ A, ∀ y ∈ A, f x = f y → x = y) : A.length ≤ B.length := by
  have : (A.map f).Nodup := by
    refine List.pairwise_map.2 ?_
    exact List.Pairwise.imp_of_mem (fun hx hy hne e => hne (hinj _ hx _ hy e)) hA
  have h2 := this.length_le_of_subset (l₂ := B) (fun y hy => by
    obtain ⟨x, hx, rfl⟩ := List.mem_map.1 hy
    exact hin x hx)
  rwa [List.length_map] at h2
/-- Orders that are alike have as many such sets. -/
theorem downs_len {n : Nat} {r q : Nat → Nat → Bool} {σ : Nat → Nat} (h1 : ∀ i, i < n → σ i < n) (h2 : ∀ k, k < n → ∃ i, i < n ∧ σ i = k) (hq : ∀ a b, a < n → b < n → (q a b = true ↔ r (σ a) (σ b) = true)) : (downs r n).length ≤ (downs q n).length := by
  refine inj_len (downs_nodup r n) (fun s => mkN (fun i => s.testBit (σ i)) n) (fun s hs => ?_) (fun s hs t ht e => ?_)
  · obtain ⟨_, hs2⟩ := mem_downs.1 hs
    refine mem_downs.2 ⟨mkN_lt _ _, fun k hk hb a ha hw => ?_⟩
    rw [mkN_bit] at hb ⊢
    exact ⟨ha, hs2 (σ k) (h1 k hk) hb.2 (σ a) (h1 a ha) ((hq a k ha hk).1 hw)⟩
  · obtain ⟨s1, _⟩ := mem_downs.1 hs
    obtain ⟨t1, _⟩ := mem_downs.1 ht
    refine bits_eq s1 t1 fun k hk => ?_
    obtain ⟨i, hi, rfl⟩ := h2 k hk
    have hb := congrArg (fun x : Nat => x.testBit i) e
    rw [Bool.eq_iff_iff, mkN_bit, mkN_bit] at hb
    exact ⟨fun h => (hb.1 ⟨hi, h⟩).2, fun h => (hb.2 ⟨hi, h⟩).2⟩
/-- What is ahead of k, and k. -/
def dnk (r : Nat → Nat → Bool) (n k : Nat) : Nat := mkN (fun a => a == k || r a k) n
theorem dnk_bit {r : Nat → Nat → Bool} {n k i : Nat} : (dnk r n k).testBit i = true ↔ i < n ∧ (i = k ∨ r i k = true) := by
  unfold dnk
  rw [mkN_bit, Bool.or_eq_true, beq_iff_eq]
structure Ord (r : Nat → Nat → Bool) (n : Nat) : Prop where
  tr : ∀ a b c, a < n → b < n → c < n → r a b = true → r b c = true → r a c = true
  ir : ∀ a, a < n → r a a = false
theorem dnk_mem {r : Nat → Nat → Bool} {n k : Nat} (h : Ord r n) (hk : k < n) : dnk r n k ∈ downs r n := by
  refine mem_downs.2 ⟨mkN_lt _ _, fun j hj hb a ha hw => ?_⟩
  rw [dnk_bit] at hb ⊢
  refine ⟨ha, .inr ?_⟩
  rcases hb.2 with e | e
  · rw [← e]; exact hw
  · exact h.tr a j k ha hj hk hw e
theorem dnk_sub {r : Nat → Nat → Bool} {n j k : Nat} (h : Ord r n) (hj : j < n) (hk : k < n) : dnk r n j &&& dnk r n k = dnk r n j ↔ j = k ∨ r j k = true := by
  rw [sub_iff]
  constructor
  · intro hs
    exact (dnk_bit.1 (hs j (dnk_bit.2 ⟨hj, .inl rfl⟩))).2
  · intro hs i hi
    rw [dnk_bit] at hi ⊢
    refine ⟨hi.1, ?_⟩
    rcases hs with rfl | hs
    · exact hi.2
    · right
      rcases hi.2 with rfl | e
      · exact hs
      · exact h.tr i j k hi.1 hj hk e hs
theorem dnk_inj {r : Nat → Nat → Bool} {n j k : Nat} (h : Ord r n) (hj : j < n) (hk : k < n) (e : dnk r n j = dnk r n k) : j = k := by
  have h1 : dnk r n j &&& dnk r n k = dnk r n j := by rw [e]; exact Nat.and_self _
  have h2 : dnk r n k &&& dnk r n j = dnk r n k := by rw [e]; exact Nat.and_self _
  rcases (dnk_sub h hj hk).1 h1 with e1 | e1
  · exact e1
  · rcases (dnk_sub h hk hj).1 h2 with e2 | e2
    · exact e2.symm
    · have := h.tr j k j hj hk hj e1 e2
      rw [h.ir j hj] at this; cases this
theorem downs_head (r : Nat → Nat → Bool) (n : Nat) : ∃ t, downs r n = 0 :: t := by
  unfold downs
  obtain ⟨m, hm⟩ : ∃ m, 2 ^ n = m + 1 := ⟨2 ^ n - 1, by have := Nat.two_pow_pos n; omega⟩
  rw [hm, List.range_succ_eq_map, List.filter_cons_of_pos (dnB_iff.2 fun k hk h => by simp at h)]
  exact ⟨_, rfl⟩
theorem downs_latp {r : Nat → Nat → Bool} {n : Nat} (hn : n ≤ 12) : LatP (downs r n) := by
  obtain ⟨t, ht⟩ := downs_head r n
  have h2n : 2 ^ n ≤ 4096 := Nat.le_trans (Nat.pow_le_pow_right (by decide) hn) (by decide)
  refine ⟨by rw [ht]; simp, by rw [ht]; rfl, fun i hi => ?_, fun i hi => ?_⟩
  · have := (mem_downs.1 (mem_getD' (d := 0) hi)).1
    omega
  · have hp : (downs r n).Pairwise (· < ·) := by
      unfold downs
      exact (List.pairwise_lt_range).filter _
    have := List.pairwise_iff_getElem.1 hp i (i + 1) (by omega) hi (by omega)
    rw [getD_lt (by omega), getD_lt hi]
    exact this
theorem downs_cl {r : Nat → Nat → Bool} {n : Nat} : ∀ a ∈ downs r n, ∀ b ∈ downs r n, (a ||| b) ∈ downs r n ∧ (a &&& b) ∈ downs r n := by
  intro a ha b hb
  obtain ⟨a1, a2⟩ := mem_downs.1 ha
  obtain ⟨b1, b2⟩ := mem_downs.1 hb
  refine ⟨mem_downs.2 ⟨Nat.or_lt_two_pow a1 b1, fun k hk hx c hc hw => ?_⟩, mem_downs.2 ⟨Nat.lt_of_le_of_lt Nat.and_le_left a1, fun k hk hx c hc hw => ?_⟩⟩
  · rw [Nat.testBit_or, Bool.or_eq_true] at hx ⊢
    exact hx.imp (fun h => a2 k hk h c hc hw) (fun h => b2 k hk h c hc hw)
  · rw [Nat.testBit_and, Bool.and_eq_true] at hx ⊢
    exact ⟨a2 k hk hx.1 c hc hw, b2 k hk hx.2 c hc hw⟩
theorem mem_drop1 {ns : List Nat} (hP : LatP ns) {s : Nat} : s ∈ ns.drop 1 ↔ s ∈ ns ∧ s ≠ 0 := by
  have hl := hP.len
  have hz := hP.zero
  constructor
  · intro h
    refine ⟨List.mem_of_mem_drop h, fun e => ?_⟩
    obtain ⟨k, hk, e2⟩ := (mem_getD (d := 0)).1 h
    rw [List.length_drop] at hk
    have e3 : (ns.drop 1).getD k 0 = ns.getD (k + 1) 0 := by
      simp only [List.getD_eq_getElem?_getD, List.getElem?_drop]
      rw [Nat.add_comm]
    have := hP.lt (show 0 < k + 1 by omega) (by omega)
    rw [← e3, e2, hz] at this
    omega
  · rintro ⟨h, h0⟩
    obtain ⟨k, hk, e⟩ := (mem_getD (d := 0)).1 h
    cases k with
    | zero => rw [hz] at e; exact absurd e.symm h0
    | succ k =>
      refine (mem_getD (d := 0)).2 ⟨k, by rw [List.length_drop]; omega, ?_⟩
      rw [← e]
      simp only [List.getD_eq_getElem?_getD, List.getElem?_drop]
      rw [Nat.add_comm]
/-- The firm sets. -/
theorem mem_firm {r : Nat → Nat → Bool} {n : Nat} (hn : n ≤ 12) (h : Ord r n) {s : Nat} : s ∈ firm (downs r n) ↔ ∃ k, k < n ∧ s = dnk r n k := by
  unfold firm
  rw [List.mem_filter, mem_drop1 (downs_latp hn), bne_iff_ne]
  constructor
  · rintro ⟨⟨h1, h2⟩, h3⟩
    refine Classical.byContradiction fun hno => h3 ?_
    obtain ⟨s1, s2⟩ := mem_downs.1 h1
    apply Nat.eq_of_testBit_eq
    intro i
    rw [Bool.eq_iff_iff]
    unfold below
    rw [orAll_bit]
    constructor
    · rintro ⟨t, ht, hi⟩
      have := (List.mem_filter.1 ht).2
      rw [Bool.and_eq_true, beq_iff_eq] at this
      exact sub_iff.1 this.2 i hi
    · intro hi
      have hin : i < n := by
        refine Classical.byContradiction fun hx => ?_
        have h4 : 2 ^ n ≤ 2 ^ i := Nat.pow_le_pow_right (by decide) (by omega)
        rw [Nat.testBit_lt_two_pow (by omega)] at hi; cases hi
      refine ⟨dnk r n i, List.mem_filter.2 ⟨dnk_mem h hin, ?_⟩, dnk_bit.2 ⟨hin, .inl rfl⟩⟩
      rw [Bool.and_eq_true, bne_iff_ne, beq_iff_eq]
      refine ⟨fun e => hno ⟨i, hin, e.symm⟩, sub_iff.2 fun j hj => ?_⟩
      rw [dnk_bit] at hj
      rcases hj.2 with e | e
      · rw [e]; exact hi
      · exact s2 i hin hi j hj.1 e
  · rintro ⟨k, hk, rfl⟩
    have hkb : (dnk r n k).testBit k = true := dnk_bit.2 ⟨hk, .inl rfl⟩
    refine ⟨⟨dnk_mem h hk, fun e => by rw [e] at hkb; simp at hkb⟩, fun e => ?_⟩
    have hb := hkb
    rw [← e] at hb
    unfold below at hb
    obtain ⟨t, ht, hi⟩ := orAll_bit.1 hb
    obtain ⟨t1, t2⟩ := List.mem_filter.1 ht
    rw [Bool.and_eq_true, bne_iff_ne, beq_iff_eq] at t2
    refine t2.1 (bits_eq (mem_downs.1 t1).1 (mkN_lt _ _) fun j hj => ⟨fun hx => sub_iff.1 t2.2 j hx, fun hx => ?_⟩)
    rw [dnk_bit] at hx
    rcases hx.2 with e2 | e2
    · rw [e2]; exact hi
    · exact (mem_downs.1 t1).2 k hk hi j hj e2
/-- Check of such sets. -/
theorem chk_large {ns : List Nat} (hP : LatP ns) (hb : ∀ n ∈ ns, n < 65536) (h1 : 300 < ns.length) (h2 : ns.length ≤ 4096) : lat_Check (toI ns) = some 2 := by
  have hlen : (toI ns).length = ns.length := toI_len ns
  have hl := hP.len
  unfold lat_Check
  rw [hlen, if_false' (by rw [Bool.or_eq_false_iff]; exact ⟨dec_f (by omega), dec_f (by omega)⟩), ck_in (by omega), toI_getD, if_false' (by rw [hP.zero]; rfl), letO_def]
  obtain ⟨z, z1, z2⟩ := chk1 hl h2 hb
  rcases z2 with ⟨m, rfl, _⟩ | ⟨c, rfl, c1, c2⟩
  · rw [bindE_inl z1, if_true' (dec_t (by omega))]
  · exact absurd hP c2
/-- Back, of firm sets. -/
theorem back_pairs {F : List Nat} (hb : ∀ s ∈ F, s < 65536) (hm : F.length ≤ 300) (e : Int) : ∃ L, loopO (fun x : List PR × Int => lat_Back_L1 (toI F, e) (F.length : Int) x.1 x.2) (([] : List PR), (0 : Int)) = some L ∧ L.Nodup ∧ L.length ≤ F.length * F.length ∧ ∀ x, x ∈ L ↔ ∃ a b, a < F.length ∧ b < F.length ∧ (a ≠ b ∧ F.getD a 0 &&& F.getD b 0 = F.getD a 0) ∧ x = ((a : Int), (b : Int), ()) := by
  have hlen : (toI F).length = F.length := toI_len F
  have hmm : F.length * F.length ≤ 90000 := Nat.mul_le_mul hm hm
  refine loop_count (fun i x => x.2 = (i : Int) ∧ x.1.Nodup ∧ x.1.length ≤ F.length * i ∧ ∀ y, y ∈ x.1 ↔ ∃ a b, a < F.length ∧ b < F.length ∧ (a ≠ b ∧ F.getD a 0 &&& F.getD b 0 = F.getD a 0) ∧ y = ((a : Int), (b : Int), ()) ∧ a < i) F.length _ ⟨rfl, List.nodup_nil, by simp, fun y => ⟨fun h => by (dsimp only at h; cases h), fun ⟨a, b, _, _, _, _, h⟩ => by omega⟩⟩ ?_ ?_
  · rintro i ⟨o, ii⟩ hi ⟨e1, e2, e3, e4⟩
    dsimp only at e1 e2 e3 e4
    subst e1
    have hbi := hb _ (mem_getD' (d := 0) hi)
    have hmi : F.length * i ≤ 90000 := Nat.le_trans (Nat.mul_le_mul_left _ (Nat.le_of_lt hi)) hmm
    have hmi1 : F.length * (i + 1) = F.length * i + F.length := Nat.mul_succ _ _
    unfold lat_Back_L1
    dsimp only
    rw [if_true' (dec_t (by omega)), ck_in (by omega), letO_def, letO_def, hlen, Int.toNat_natCast, toI_getD]
    obtain ⟨o', p1, p2, p3, p4⟩ := loop_count (B := fun x : List PR × Int => lat_Back_L2 (toI F, e) (i : Int) ((F.getD i 0 : Nat) : Int) (F.length : Int) x.1 x.2) (fun j x => x.2 = (j : Int) ∧ x.1.Nodup ∧ x.1.length ≤ F.length * i + j ∧ ∀ y, y ∈ x.1 ↔ ∃ a b, a < F.length ∧ b < F.length ∧ (a ≠ b ∧ F.getD a 0 &&& F.getD b 0 = F.getD a 0) ∧ y = ((a : Int), (b : Int), ()) ∧ (a < i ∨ (a = i ∧ b < j))) F.length (fun o => o.Nodup ∧ o.length ≤ F.length * (i + 1) ∧ ∀ y, y ∈ o ↔ ∃ a b, a < F.length ∧ b < F.length ∧ (a ≠ b ∧ F.getD a 0 &&& F.getD b 0 = F.getD a 0) ∧ y = ((a : Int), (b : Int), ()) ∧ a < i + 1) (x := (o, (0 : Int))) ⟨rfl, e2, by dsimp only; omega, fun y => by
        dsimp only
        rw [e4 y]
        constructor
        · rintro ⟨a, b, h1, h2, h3, h4, h5⟩; exact ⟨a, b, h1, h2, h3, h4, .inl h5⟩
        · rintro ⟨a, b, h1, h2, h3, h4, h5⟩; exact ⟨a, b, h1, h2, h3, h4, by omega⟩⟩ (by
      rintro j ⟨o, jj⟩ hj ⟨f1, f2, f3, f4⟩
      dsimp only at f1 f2 f3 f4
      subst f1
      have hbj := hb _ (mem_getD' (d := 0) hj)
      unfold lat_Back_L2 lat_Back_J3
      dsimp only
      rw [if_true' (dec_t (by omega)), ck_in (by omega), letO_def, Int.toNat_natCast, toI_getD, inc64 (by omega), and_N (k := .u16) (by rw [max16]; omega) (by rw [max16]; omega)]
      by_cases hw : i ≠ j ∧ F.getD i 0 &&& F.getD j 0 = F.getD i 0
      · rw [if_true' (by
          rw [Bool.and_eq_true, bne_iff_ne, beq_iff_eq, hw.2]
          exact ⟨fun e => hw.1 (Int.ofNat.inj e), rfl⟩), ck_in (le_maxL (by simp only [List.length_cons, List.length_nil]; omega))]
        refine ⟨_, rfl, rfl, ?_, ?_, fun y => ?_⟩
        · dsimp only
          rw [List.nodup_append]
          refine ⟨f2, by simp, fun x hx y hy e => ?_⟩
          rw [List.mem_singleton] at hy
          obtain ⟨a, b, h1, h2, h3, h4, h5⟩ := (f4 x).1 hx
          rw [e, hy] at h4
          simp only [Prod.mk.injEq, and_true] at h4
          omega
        · dsimp only
          rw [List.length_append]
          simp only [List.length_cons, List.length_nil]
          omega
        · dsimp only
          rw [List.mem_append, f4 y, List.mem_singleton]
          constructor
          · rintro (⟨a, b, h1, h2, h3, h4, h5⟩ | rfl)
            · exact ⟨a, b, h1, h2, h3, h4, by omega⟩
            · exact ⟨i, j, hi, hj, hw, rfl, by omega⟩
          · rintro ⟨a, b, h1, h2, h3, h4, h5⟩
            by_cases e : a = i ∧ b = j
            · right; rw [h4, e.1, e.2]
            · exact .inl ⟨a, b, h1, h2, h3, h4, by omega⟩
      · rw [if_false' (by
          rw [Bool.eq_false_iff]
          intro hx
          rw [Bool.and_eq_true, bne_iff_ne, beq_iff_eq] at hx
          exact hw ⟨fun e => hx.1 (by rw [e]), Int.ofNat.inj hx.2⟩)]
        refine ⟨_, rfl, rfl, f2, by dsimp only; omega, fun y => ?_⟩
        dsimp only
        rw [f4 y]
        constructor
        · rintro ⟨a, b, h1, h2, h3, h4, h5⟩; exact ⟨a, b, h1, h2, h3, h4, by omega⟩
        · rintro ⟨a, b, h1, h2, h3, h4, h5⟩
          refine ⟨a, b, h1, h2, h3, h4, ?_⟩
          by_cases e : a = i ∧ b = j
          · rw [e.1, e.2] at h3; exact absurd h3 hw
          · omega) (by
      rintro ⟨o, jj⟩ ⟨f1, f2, f3, f4⟩
      dsimp only at f1 f2 f3 f4
      subst f1
      unfold lat_Back_L2
      dsimp only
      rw [if_false' (dec_f (by omega))]
      refine ⟨_, rfl, f2, by omega, fun y => ?_⟩
      rw [f4 y]
      constructor
      · rintro ⟨a, b, h1, h2, h3, h4, h5⟩; exact ⟨a, b, h1, h2, h3, h4, by omega⟩
      · rintro ⟨a, b, h1, h2, h3, h4, h5⟩; exact ⟨a, b, h1, h2, h3, h4, by omega⟩)
    rw [bind_of p1, inc64 (by omega)]
    exact ⟨_, rfl, rfl, p2, p3, p4⟩
  · rintro ⟨o, ii⟩ ⟨e1, e2, e3, e4⟩
    dsimp only at e1 e2 e3 e4
    subst e1
    unfold lat_Back_L1
    dsimp only
    rw [if_false' (dec_f (by omega))]
    refine ⟨_, rfl, e2, e3, fun y => ?_⟩
    rw [e4 y]
    constructor
    · rintro ⟨a, b, h1, h2, h3, h4, h5⟩; exact ⟨a, b, h1, h2, h3, h4⟩
    · rintro ⟨a, b, h1, h2, h3, h4⟩; exact ⟨a, b, h1, h2, h3, h4, h1⟩
end Go.Proofs.Ytaachifkgcdeoaa.Lt
