/- Lattices of sets: both, and the laws of a distributive lattice. -/
import Derived.Test.YtaachifkgcdeoaaLatB
open Go Go.Proofs.Ytaachifkgcdeoaa.Sy Go.Proofs.Ytaachifkgcdeoaa.Pu
set_option linter.unusedVariables false
set_option linter.unusedSimpArgs false
namespace Go.Proofs.Ytaachifkgcdeoaa.Lt
theorem rest_run {a : Int} {n : Nat} (ha : -9223372036854775808 ≤ a ∧ a ≤ 9223372036854775807) (h1 : 1 ≤ n) (h2 : n ≤ 1000000) : ∃ j : Nat, j < n ∧ R_Rest a (n : Int) = some (j : Int) := by
  have hn : (0 : Int) < n := by omega
  refine ⟨(a % (n : Int)).toNat, ?_, ?_⟩
  · have := Int.emod_lt_of_pos a hn
    have := Int.emod_nonneg a (show (n : Int) ≠ 0 by omega)
    omega
  · unfold R_Rest
    have h3 := Int.tmod_lt_of_pos a hn
    have h4 : -(n : Int) < a.tmod n := by
      rcases Int.le_total 0 a with h | h
      · have := Int.tmod_nonneg (n : Int) h; omega
      · have h5 := Int.tmod_lt_of_pos (-a) hn
        rw [Int.neg_tmod] at h5
        omega
    rw [if_false' (dec_f (by omega)), ck_in (by omega), ck_in (by omega), rem64, rem64, add64 (by omega) (by omega), tmod_rest' a n hn]
    have := Int.emod_nonneg a (show (n : Int) ≠ 0 by omega)
    congr 1
    omega
theorem both_run {ns : List Nat} (hL : LatOk ns) (hb : ∀ n ∈ ns, n < 65536) {a b : Nat} (ha : a < ns.length) (hb' : b < ns.length) : lat_Both (toI ns) (a : Int) (b : Int) = some (((ns.getD a 0 ||| ns.getD b 0 : Nat) : Int), ((ns.getD a 0 &&& ns.getD b 0 : Nat) : Int), (0 : Int)) := by
  have hlen : (toI ns).length = ns.length := toI_len ns
  obtain ⟨c, c1, c2⟩ := chk hb
  have h0 := c2.2 hL
  subst h0
  have hl3 := hL.len3
  have h1 := hb _ (mem_getD' (d := 0) ha)
  have h2 := hb _ (mem_getD' (d := 0) hb')
  unfold lat_Both
  rw [bind_of c1, if_false' (by rfl), if_false' (by
    rw [Bool.or_eq_false_iff, Bool.or_eq_false_iff, Bool.or_eq_false_iff]
    exact ⟨⟨⟨dec_f (by omega), dec_f (by omega)⟩, dec_f (by omega)⟩, dec_f (by omega)⟩), ck_in (by omega), ck_in (by omega), ck_in (by omega), ck_in (by omega)]
  simp only [Int.toNat_natCast, toI_getD]
  rw [or_N (k := .u16) (by rw [max16]; omega) (by rw [max16]; omega), and_N (k := .u16) (by rw [max16]; omega) (by rw [max16]; omega)]
theorem index_run {ns : List Nat} (hl : ns.length ≤ 300) {v : Nat} (hv : v ∈ ns) : ∃ j : Nat, j < ns.length ∧ ns.getD j 0 = v ∧ LatLaws_1 (v : Int) (toI ns) = some (j : Int) := by
  have hlen : (toI ns).length = ns.length := toI_len ns
  obtain ⟨j, hj, _⟩ := find_some (P := fun t => v == t) hv (by simp)
  obtain ⟨h1, h2, _⟩ := find_at (d := 0) hj
  rw [beq_iff_eq] at h2
  refine ⟨j, h1, h2.symm, ?_⟩
  have h := find_loop (B := fun x : Int => slices_Index_Luint16_uint16_L1 (toI ns) (v : Int) ((toI ns).length : Int) x) (l := ns) (d := 0) (P := fun t => v == t) (g := fun k => Sum.inr (k : Int)) (e := Sum.inl ()) (fun k hk => by
    unfold slices_Index_Luint16_uint16_L1
    rw [if_true' (dec_t (by omega)), ck_in (by omega), inc64 (by omega)]
    simp only [Int.toNat_natCast, toI_getD]
    by_cases e : v = ns.getD k 0
    · rw [if_true' (by rw [beq_iff_eq]; exact_mod_cast e), if_pos (by rw [beq_iff_eq]; exact e)]
    · rw [if_false' (by rw [beq_eq_false_iff_ne]; exact_mod_cast e), if_neg (by rw [beq_iff_eq]; exact e)]) (by
    unfold slices_Index_Luint16_uint16_L1
    rw [if_false' (dec_f (by omega))])
  rw [hj] at h
  unfold LatLaws_1 slices_Index_Luint16_uint16
  rw [letO_def, bindE_inr h]
  rfl
theorem latok3 : LatOk [0, 1, 2, 3] := by
  refine ⟨⟨by decide, by decide, ?_, ?_⟩, by decide, by decide⟩
  · intro i hi
    have : i < 4 := hi
    rcases (by omega : i = 0 ∨ i = 1 ∨ i = 2 ∨ i = 3) with rfl | rfl | rfl | rfl <;> decide
  · intro i hi
    have : i + 1 < 4 := hi
    rcases (by omega : i = 0 ∨ i = 1 ∨ i = 2) with rfl | rfl | rfl <;> decide
theorem both3 : lat_Both [(0 : Int), (1 : Int), (2 : Int), (3 : Int)] (1 : Int) (2 : Int) = some ((3 : Int), (0 : Int), (0 : Int)) :=
  both_run latok3 (by decide) (a := 1) (b := 2) (by decide) (by decide)
theorem laws_law (l : List Int) (x y z : Int) (hl : ∀ x ∈ l, 0 ≤ x ∧ x ≤ 65535) (hx : -9223372036854775808 ≤ x ∧ x ≤ 9223372036854775807) (hy : -9223372036854775808 ≤ y ∧ y ≤ 9223372036854775807) (hz : -9223372036854775808 ≤ z ∧ z ≤ 9223372036854775807) : LatLaws l x y z = some true := by
  obtain ⟨ns, rfl⟩ := toI_of (l := l) (fun x h => (hl x h).1)
  have hb : ∀ n ∈ ns, n < 65536 := fun n hn => by have := (hl _ (toI_mem.2 hn)).2; omega
  have hlen : (toI ns).length = ns.length := toI_len ns
  unfold LatLaws
  rw [bind_of both3, if_false' (by decide)]
  obtain ⟨c, c1, c2⟩ := chk hb
  rw [bind_of c1]
  by_cases h0 : c = 0
  · have hL := c2.1 h0
    have hl3 := hL.len3
    have hl1 := hL.len
    obtain ⟨i, i1, i2⟩ := rest_run hx hl1 (by omega)
    obtain ⟨j, j1, j2⟩ := rest_run hy hl1 (by omega)
    obtain ⟨k, k1, k2⟩ := rest_run hz hl1 (by omega)
    rw [if_false' (by rw [h0]; rfl), letO_def, hlen, bind_of i2, bind_of j2, bind_of k2, bind_of (both_run hL hb j1 k1), bind_of (both_run hL hb i1 j1), bind_of (both_run hL hb i1 k1)]
    dsimp only
    have mi := mem_getD' (d := 0) i1
    have mj := mem_getD' (d := 0) j1
    have mk := mem_getD' (d := 0) k1
    obtain ⟨p, p1, p2, p3⟩ := index_run hl3 (hL.cl _ mj _ mk).1
    obtain ⟨q, q1, q2, q3⟩ := index_run hl3 (hL.cl _ mi _ mj).2
    obtain ⟨r, r1, r2, r3⟩ := index_run hl3 (hL.cl _ mi _ mk).2
    rw [p3, q3, r3, letO_def, ck_in (by intro _; rfl), letO_def, ck_in (by intro _; rfl), letO_def, ck_in (by intro _; rfl)]
    dsimp only [Option.getD_some]
    rw [if_false' (by
      rw [Bool.or_eq_false_iff, Bool.or_eq_false_iff, Bool.or_eq_false_iff]
      exact ⟨⟨⟨rfl, dec_f (by omega)⟩, dec_f (by omega)⟩, dec_f (by omega)⟩)]
    simp only [Option.bind_some]
    rw [bind_of (both_run hL hb i1 p1), bind_of (both_run hL hb q1 r1), bind_of (both_run hL hb i1 q1), ck_in (by intro _; omega), p2, q2, r2]
    simp only [Int.toNat_natCast, toI_getD]
    congr 1
    rw [Bool.and_eq_true]
    refine ⟨?_, ?_⟩
    · rw [beq_iff_eq]
      congr 1
      exact Nat.and_or_distrib_left _ _ _
    · rw [beq_iff_eq]
      congr 1
      apply Nat.eq_of_testBit_eq
      intro b
      rw [Nat.testBit_or, Nat.testBit_and]
      cases (ns.getD i 0).testBit b <;> simp
  · rw [if_true' (by rw [bne_iff_ne]; exact h0)]
end Go.Proofs.Ytaachifkgcdeoaa.Lt
