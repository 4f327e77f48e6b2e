/- Lattices of sets: the least and the greatest place at rest. -/
import Derived.Test.YtaachifkgcdeoaaLatC
open Go Go.Proofs.Ytaachifkgcdeoaa.Sy Go.Proofs.Ytaachifkgcdeoaa.Pu
set_option linter.unusedVariables false
set_option linter.unusedSimpArgs false
namespace Go.Proofs.Ytaachifkgcdeoaa.Lt
/-- A loop that ends since a measure falls. -/
theorem loop_meas {X Z : Type} {B : X → Option (X ⊕ Z)} (I : X → Prop) (μ : X → Nat) (Q : Z → Prop) (h : ∀ x, I x → (∃ x', B x = some (.inl x') ∧ I x' ∧ μ x' < μ x) ∨ ∃ z, B x = some (.inr z) ∧ Q z) : ∀ n x, μ x = n → I x → ∃ z, loopO B x = some z ∧ Q z := by
  intro n
  induction n using Nat.strongRecOn with
  | ind n ih =>
    intro x hx hI
    rcases h x hI with ⟨x', h1, h2, h3⟩ | ⟨z, h1, h2⟩
    · rw [loopO_next h1]
      exact ih (μ x') (by omega) x' rfl h2
    · exact ⟨z, loopO_done h1, h2⟩
structure RiseOk (ns : List Nat) (f : List Int) : Prop extends LatOk ns where
  flen : f.length = ns.length
  fin : ∀ k, k < ns.length → 0 ≤ f.getD k 0 ∧ f.getD k 0 < (ns.length : Int)
  mono2 : ∀ i, i < ns.length → ∀ k, k < ns.length → ns.getD i 0 &&& ns.getD k 0 = ns.getD i 0 → ns.getD (f.getD i 0).toNat 0 &&& ns.getD (f.getD k 0).toNat 0 = ns.getD (f.getD i 0).toNat 0
theorem rise3 {ns : List Nat} {f : List Int} (hl : ns.length ≤ 300) (hb : ∀ n ∈ ns, n < 65536) (hf : f.length = ns.length) (hin : ∀ k, k < ns.length → 0 ≤ f.getD k 0 ∧ f.getD k 0 < (ns.length : Int)) {i : Nat} (hi : i < ns.length) :
    ∃ z, loopO (fun x : Int => lat_Rises_L3 (toI ns) f (i : Int) ((ns.getD i 0 : Nat) : Int) (ns.length : Int) x) (0 : Int) = some z ∧ ((z = .inl () ∧ ∀ k, k < ns.length → ns.getD i 0 &&& ns.getD k 0 = ns.getD i 0 → ns.getD (f.getD i 0).toNat 0 &&& ns.getD (f.getD k 0).toNat 0 = ns.getD (f.getD i 0).toNat 0) ∨ (z = .inr (.inr (.inr 11)) ∧ ∃ k, k < ns.length ∧ ¬ (ns.getD i 0 &&& ns.getD k 0 = ns.getD i 0 → ns.getD (f.getD i 0).toNat 0 &&& ns.getD (f.getD k 0).toNat 0 = ns.getD (f.getD i 0).toNat 0))) := by
  have hlen : (toI ns).length = ns.length := toI_len ns
  refine loop_countE (fun k x => x = (k : Int) ∧ ∀ j, j < k → ns.getD i 0 &&& ns.getD j 0 = ns.getD i 0 → ns.getD (f.getD i 0).toNat 0 &&& ns.getD (f.getD j 0).toNat 0 = ns.getD (f.getD i 0).toNat 0) ns.length _ ⟨rfl, fun j hj => by omega⟩ ?_ ?_
  · rintro k x hk ⟨rfl, e⟩
    have hbk := hb _ (mem_getD' (d := 0) hk)
    have hbi := hb _ (mem_getD' (d := 0) hi)
    have fi := hin i hi
    have fk := hin k hk
    have hfi := hb _ (mem_getD' (d := 0) (show (f.getD i 0).toNat < ns.length by omega))
    have hfk := hb _ (mem_getD' (d := 0) (show (f.getD k 0).toNat < ns.length by omega))
    unfold lat_Rises_L3
    rw [if_true' (dec_t (by omega)), ck_in (by omega), letO_def]
    simp only [Int.toNat_natCast, toI_getD]
    rw [ck_in (by intro _; omega), ck_in (by intro _; omega), ck_in (by intro _; omega), ck_in (by intro _; omega), ck_in (by intro _; omega), ck_in (by intro _; omega)]
    rw [and_N (k := .u16) (by rw [max16]; omega) (by rw [max16]; omega), and_N (k := .u16) (by rw [max16]; omega) (by rw [max16]; omega), inc64 (by omega)]
    by_cases h1 : ns.getD i 0 &&& ns.getD k 0 = ns.getD i 0
    · by_cases h2 : ns.getD (f.getD i 0).toNat 0 &&& ns.getD (f.getD k 0).toNat 0 = ns.getD (f.getD i 0).toNat 0
      · rw [if_false' (by rw [Bool.and_eq_false_iff]; right; rw [h2]; simp)]
        refine .inl ⟨_, rfl, rfl, fun j hj => ?_⟩
        by_cases ej : j = k
        · rw [ej]; exact fun _ => h2
        · exact e j (by omega)
      · rw [if_true' (by rw [Bool.and_eq_true]; exact ⟨by rw [beq_iff_eq]; exact_mod_cast h1, by rw [bne_iff_ne]; exact_mod_cast h2⟩)]
        exact .inr ⟨_, rfl, .inr ⟨rfl, k, hk, fun h => h2 (h h1)⟩⟩
    · rw [if_false' (by rw [Bool.and_eq_false_iff]; left; rw [beq_eq_false_iff_ne]; exact_mod_cast h1)]
      refine .inl ⟨_, rfl, rfl, fun j hj => ?_⟩
      by_cases ej : j = k
      · rw [ej]; exact fun h => absurd h h1
      · exact e j (by omega)
  · rintro x ⟨rfl, e⟩
    unfold lat_Rises_L3
    rw [if_false' (dec_f (by omega))]
    exact ⟨_, rfl, .inl ⟨rfl, e⟩⟩
theorem rise {ns : List Nat} {f : List Int} (hb : ∀ n ∈ ns, n < 65536) : ∃ c : Int, lat_Rises (toI ns) f = some c ∧ (c = 0 ↔ RiseOk ns f) := by
  have hlen : (toI ns).length = ns.length := toI_len ns
  obtain ⟨c, c1, c2⟩ := chk hb
  unfold lat_Rises
  rw [bind_of c1]
  by_cases h0 : c = 0
  · have hL := c2.1 h0
    have hl3 := hL.len3
    rw [if_false' (by rw [h0]; rfl), hlen]
    by_cases h1 : f.length = ns.length
    · rw [if_false' (by rw [h1]; simp), letO_def]
      obtain ⟨z, z1, z2⟩ := loop_countE (B := fun x : Int => lat_Rises_L1 (toI ns) f (f.length : Int) x) (fun k x => x = (k : Int) ∧ ∀ j, j < k → 0 ≤ f.getD j 0 ∧ f.getD j 0 < (ns.length : Int)) f.length (fun z => (z = .inl () ∧ ∀ j, j < f.length → 0 ≤ f.getD j 0 ∧ f.getD j 0 < (ns.length : Int)) ∨ (z = .inr 1 ∧ ∃ j, j < f.length ∧ ¬ (0 ≤ f.getD j 0 ∧ f.getD j 0 < (ns.length : Int)))) (x := (0 : Int)) ⟨rfl, fun j hj => by omega⟩ (by
        rintro k x hk ⟨rfl, e⟩
        unfold lat_Rises_L1
        rw [if_true' (dec_t (by omega)), ck_in (by omega), letO_def, hlen, inc64 (by omega)]
        simp only [Int.toNat_natCast]
        by_cases h2 : 0 ≤ f.getD k 0 ∧ f.getD k 0 < (ns.length : Int)
        · rw [if_false' (by rw [Bool.or_eq_false_iff]; exact ⟨dec_f (by omega), dec_f (by omega)⟩)]
          refine .inl ⟨_, rfl, rfl, fun j hj => ?_⟩
          by_cases ej : j = k
          · rw [ej]; exact h2
          · exact e j (by omega)
        · rw [if_true' (by
            rw [Bool.or_eq_true]
            by_cases h3 : f.getD k 0 < 0
            · exact .inl (dec_t h3)
            · exact .inr (dec_t (by omega)))]
          exact .inr ⟨_, rfl, .inr ⟨rfl, k, hk, h2⟩⟩) (by
        rintro x ⟨rfl, e⟩
        unfold lat_Rises_L1
        rw [if_false' (dec_f (by omega))]
        exact ⟨_, rfl, .inl ⟨rfl, e⟩⟩)
      rcases z2 with ⟨rfl, z2⟩ | ⟨rfl, j, j1, j2⟩
      · rw [h1] at z2
        rw [bindE_inl z1, letO_def]
        obtain ⟨y, y1, y2⟩ := loop_countE (B := fun x : Int => lat_Rises_L2 (toI ns) f (ns.length : Int) x) (fun k x => x = (k : Int) ∧ ∀ i, i < k → ∀ k, k < ns.length → ns.getD i 0 &&& ns.getD k 0 = ns.getD i 0 → ns.getD (f.getD i 0).toNat 0 &&& ns.getD (f.getD k 0).toNat 0 = ns.getD (f.getD i 0).toNat 0) ns.length (fun z => (z = .inl () ∧ ∀ i, i < ns.length → ∀ k, k < ns.length → ns.getD i 0 &&& ns.getD k 0 = ns.getD i 0 → ns.getD (f.getD i 0).toNat 0 &&& ns.getD (f.getD k 0).toNat 0 = ns.getD (f.getD i 0).toNat 0) ∨ (z = .inr 11 ∧ ∃ i, i < ns.length ∧ ∃ k, k < ns.length ∧ ¬ (ns.getD i 0 &&& ns.getD k 0 = ns.getD i 0 → ns.getD (f.getD i 0).toNat 0 &&& ns.getD (f.getD k 0).toNat 0 = ns.getD (f.getD i 0).toNat 0))) (x := (0 : Int)) ⟨rfl, fun j hj => by omega⟩ (by
          rintro k x hk ⟨rfl, e⟩
          unfold lat_Rises_L2
          rw [if_true' (dec_t (by omega)), ck_in (by omega), letO_def, letO_def, hlen]
          simp only [Int.toNat_natCast, toI_getD]
          obtain ⟨w, w1, w2⟩ := rise3 hl3 hb h1 z2 hk
          rcases w2 with ⟨rfl, w2⟩ | ⟨rfl, j, j1, j2⟩
          · rw [bindE_inl w1, inc64 (by omega)]
            refine .inl ⟨_, rfl, rfl, fun j hj => ?_⟩
            by_cases ej : j = k
            · rw [ej]; exact w2
            · exact e j (by omega)
          · rw [bindE_inr w1]
            exact .inr ⟨_, rfl, .inr ⟨rfl, k, hk, j, j1, j2⟩⟩) (by
          rintro x ⟨rfl, e⟩
          unfold lat_Rises_L2
          rw [if_false' (dec_f (by omega))]
          exact ⟨_, rfl, .inl ⟨rfl, e⟩⟩)
        rcases y2 with ⟨rfl, y2⟩ | ⟨rfl, i, i1, k, k1, k2⟩
        · rw [bindE_inl y1]
          exact ⟨0, rfl, fun _ => ⟨hL, h1, z2, y2⟩, fun _ => rfl⟩
        · rw [bindE_inr y1]
          exact ⟨11, rfl, (fun h => by cases h), fun h => absurd (h.mono2 i i1 k k1) k2⟩
      · rw [bindE_inr z1]
        exact ⟨1, rfl, (fun h => by cases h), fun h => absurd (h.fin j (by omega)) j2⟩
    · rw [if_true' (by rw [bne_iff_ne]; exact_mod_cast h1)]
      exact ⟨4, rfl, (fun h => by cases h), fun h => absurd h.flen h1⟩
  · rw [if_true' (by rw [bne_iff_ne]; exact h0)]
    exact ⟨c, rfl, fun h => absurd h h0, fun h => absurd (c2.2 h.toLatOk) h0⟩
theorem LatP.inj {ns : List Nat} (h : LatP ns) {i j : Nat} (hi : i < ns.length) (hj : j < ns.length) (hle : ns.getD i 0 ≤ ns.getD j 0) : i ≤ j := by
  refine Classical.byContradiction fun hn => ?_
  have := h.lt (show j < i by omega) hi
  omega
theorem top {ns : List Nat} (h : LatOk ns) {k : Nat} (hk : k < ns.length) : ns.getD k 0 &&& ns.getD (ns.length - 1) 0 = ns.getD k 0 := by
  have hl := h.len
  have ht : ns.length - 1 < ns.length := by omega
  obtain ⟨j, j1, j2⟩ := (mem_getD (d := 0)).1 (h.cl _ (mem_getD' (d := 0) hk) _ (mem_getD' (d := 0) ht)).1
  have hle : ns.getD (ns.length - 1) 0 ≤ ns.getD j 0 := by rw [j2]; exact Nat.right_le_or
  have h1 := h.toLatP.inj ht j1 hle
  have e : j = ns.length - 1 := by omega
  rw [e] at j2
  refine sub_iff.2 fun i hi => ?_
  rw [j2, Nat.testBit_or, hi]
  rfl
theorem still {ns : List Nat} {f : List Int} (hb : ∀ n ∈ ns, n < 65536) (hR : RiseOk ns f) : ∃ lo hi : Nat, lat_Still (toI ns) f = some ((lo : Int), (hi : Int), (0 : Int)) ∧ lo < ns.length ∧ hi < ns.length ∧ f.getD lo 0 = (lo : Int) ∧ f.getD hi 0 = (hi : Int) ∧ ∀ k, k < ns.length → f.getD k 0 = (k : Int) → ns.getD lo 0 &&& ns.getD k 0 = ns.getD lo 0 ∧ ns.getD k 0 &&& ns.getD hi 0 = ns.getD k 0 := by
  have hlen : (toI ns).length = ns.length := toI_len ns
  obtain ⟨c, c1, c2⟩ := rise (f := f) hb
  have h0 := c2.2 hR
  subst h0
  have hl3 := hR.len3
  have hl1 := hR.len
  have hfl := hR.flen
  unfold lat_Still
  rw [bind_of c1, if_false' (by rfl), hlen]
  have z0 : ∀ k, k < ns.length → ns.getD 0 0 &&& ns.getD k 0 = ns.getD 0 0 := fun k hk => by rw [hR.zero]; simp
  obtain ⟨y, y1, lo, e1, l1, l2, l3⟩ := loop_meas (B := fun x : Int => lat_Still_L1 f x) (fun x => ∃ a : Nat, x = (a : Int) ∧ a < ns.length ∧ ns.getD a 0 &&& ns.getD (f.getD a 0).toNat 0 = ns.getD a 0 ∧ ∀ k, k < ns.length → f.getD k 0 = (k : Int) → ns.getD a 0 &&& ns.getD k 0 = ns.getD a 0) (fun x => ns.length - x.toNat) (fun z => ∃ a : Nat, z = (a : Int) ∧ a < ns.length ∧ f.getD a 0 = (a : Int) ∧ ∀ k, k < ns.length → f.getD k 0 = (k : Int) → ns.getD a 0 &&& ns.getD k 0 = ns.getD a 0) (by
    rintro x ⟨a, rfl, a1, a2, a3⟩
    have fa := hR.fin a a1
    unfold lat_Still_L1
    rw [ck_in (by omega), Int.toNat_natCast]
    by_cases he : f.getD a 0 = (a : Int)
    · rw [if_false' (by rw [he]; simp)]
      exact .inr ⟨_, rfl, a, rfl, a1, he, a3⟩
    · rw [if_true' (by rw [bne_iff_ne]; exact he), ck_in (by omega)]
      have b1 : (f.getD a 0).toNat < ns.length := by omega
      have hle := hR.toLatP.inj a1 b1 (le_of_sub a2)
      refine .inl ⟨_, rfl, ⟨(f.getD a 0).toNat, by omega, b1, hR.mono2 a a1 _ b1 a2, fun k k1 k2 => ?_⟩, by omega⟩
      have := hR.mono2 a a1 k k1 (a3 k k1 k2)
      rw [k2, Int.toNat_natCast] at this
      exact this) _ (0 : Int) rfl ⟨0, rfl, by omega, z0 _ (by have := hR.fin 0 (by omega); omega), fun k k1 _ => z0 k k1⟩
  subst e1
  rw [bind_of y1, letO_def, sub64 (by omega) (by omega)]
  have htop : ns.length - 1 < ns.length := by omega
  obtain ⟨y', y1', hi, e1', h1, h2, h3⟩ := loop_meas (B := fun x : Int => lat_Still_L2 f x) (fun x => ∃ a : Nat, x = (a : Int) ∧ a < ns.length ∧ ns.getD (f.getD a 0).toNat 0 &&& ns.getD a 0 = ns.getD (f.getD a 0).toNat 0 ∧ ∀ k, k < ns.length → f.getD k 0 = (k : Int) → ns.getD k 0 &&& ns.getD a 0 = ns.getD k 0) (fun x => x.toNat) (fun z => ∃ a : Nat, z = (a : Int) ∧ a < ns.length ∧ f.getD a 0 = (a : Int) ∧ ∀ k, k < ns.length → f.getD k 0 = (k : Int) → ns.getD k 0 &&& ns.getD a 0 = ns.getD k 0) (by
    rintro x ⟨a, rfl, a1, a2, a3⟩
    have fa := hR.fin a a1
    unfold lat_Still_L2
    rw [ck_in (by omega), Int.toNat_natCast]
    by_cases he : f.getD a 0 = (a : Int)
    · rw [if_false' (by rw [he]; simp)]
      exact .inr ⟨_, rfl, a, rfl, a1, he, a3⟩
    · rw [if_true' (by rw [bne_iff_ne]; exact he), ck_in (by omega)]
      have b1 : (f.getD a 0).toNat < ns.length := by omega
      have hle := hR.toLatP.inj b1 a1 (le_of_sub a2)
      refine .inl ⟨_, rfl, ⟨(f.getD a 0).toNat, by omega, b1, hR.mono2 _ b1 a a1 a2, fun k k1 k2 => ?_⟩, by omega⟩
      have := hR.mono2 k k1 a a1 (a3 k k1 k2)
      rw [k2, Int.toNat_natCast] at this
      exact this) _ ((ns.length : Int) - 1) rfl ⟨ns.length - 1, by omega, htop, top hR.toLatOk (by have := hR.fin _ htop; omega), fun k k1 _ => top hR.toLatOk k1⟩
  subst e1'
  rw [bind_of y1']
  exact ⟨lo, hi, rfl, l1, h1, l2, h2, fun k k1 k2 => ⟨l3 k k1 k2, h3 k k1 k2⟩⟩
theorem riseok3 : RiseOk [0, 1, 3] [1, 1, 2] := by
  refine ⟨⟨⟨by decide, by decide, ?_, ?_⟩, by decide, by decide⟩, by decide, ?_, by decide⟩
  · intro i hi
    have : i < 3 := hi
    rcases (by omega : i = 0 ∨ i = 1 ∨ i = 2) with rfl | rfl | rfl <;> decide
  · intro i hi
    have : i + 1 < 3 := hi
    rcases (by omega : i = 0 ∨ i = 1) with rfl | rfl <;> decide
  · intro i hi
    have : i < 3 := hi
    rcases (by omega : i = 0 ∨ i = 1 ∨ i = 2) with rfl | rfl | rfl <;> decide
theorem still3 : lat_Still [(0 : Int), (1 : Int), (3 : Int)] [(1 : Int), (1 : Int), (2 : Int)] = some ((1 : Int), (2 : Int), (0 : Int)) := by
  obtain ⟨lo, hi, h, l1, h1, l2, h2, hk⟩ := still (by decide) riseok3
  have k1 := hk 1 (by decide) rfl
  have k2 := hk 2 (by decide) rfl
  have l1' : lo < 3 := l1
  have h1' : hi < 3 := h1
  refine Eq.trans h ?_
  rcases (by omega : lo = 0 ∨ lo = 1 ∨ lo = 2) with rfl | rfl | rfl
  · exact absurd l2 (by decide)
  · rcases (by omega : hi = 0 ∨ hi = 1 ∨ hi = 2) with rfl | rfl | rfl
    · exact absurd h2 (by decide)
    · exact absurd k2.2 (by decide)
    · rfl
  · exact absurd k1.1 (by decide)
theorem still_law (l f : List Int) (hl : ∀ x ∈ l, 0 ≤ x ∧ x ≤ 65535) : LatStill l f = some true := by
  obtain ⟨ns, rfl⟩ := toI_of (l := l) (fun x h => (hl x h).1)
  have hb : ∀ n ∈ ns, n < 65536 := fun n hn => by have := (hl _ (toI_mem.2 hn)).2; omega
  have hlen : (toI ns).length = ns.length := toI_len ns
  unfold LatStill
  rw [bind_of still3, if_false' (by decide)]
  obtain ⟨c, c1, c2⟩ := rise (f := f) hb
  by_cases h0 : c = 0
  · have hR := c2.1 h0
    have hl3 := hR.len3
    have hfl := hR.flen
    obtain ⟨lo, hi, h, l1, h1, l2, h2, hk⟩ := still hb hR
    rw [bind_of h, if_false' (by rfl)]
    dsimp only
    rw [ck_in (by omega), ck_in (by intro _; omega)]
    simp only [Int.toNat_natCast]
    rw [if_false' (by rw [l2, h2]; simp), letO_def]
    have hloop : loopO (fun x : Int => LatStill_L1 (toI ns) f ((lo : Int), (hi : Int), (0 : Int)) (f.length : Int) x) (0 : Int) = some (.inl ()) := all_loop (l := f) (d := 0) (fun k hk' => by
      have hkn : k < ns.length := by omega
      have b1 := hb _ (mem_getD' (d := 0) hkn)
      have b2 := hb _ (mem_getD' (d := 0) l1)
      have b3 := hb _ (mem_getD' (d := 0) h1)
      unfold LatStill_L1
      dsimp only
      rw [if_true' (dec_t (by omega)), ck_in (by omega), letO_def, inc64 (by omega)]
      simp only [Int.toNat_natCast, toI_getD]
      rw [ck_in (by intro _; omega), ck_in (by intro _; omega), ck_in (by intro _ _; omega), ck_in (by intro _ _; omega), andNot_N (k := .u16) (by rw [max16]; omega) (by rw [max16]; omega), andNot_N (k := .u16) (by rw [max16]; omega) (by rw [max16]; omega)]
      by_cases e : f.getD k 0 = (k : Int)
      · obtain ⟨q1, q2⟩ := hk k hkn e
        have w1 := (andNot_sub b1 b2).2 q1
        have w2 := (andNot_sub b3 b1).2 q2
        rw [w1, w2, if_false' (by simp)]
      · rw [if_false' (by rw [Bool.and_eq_false_iff]; left; rw [beq_eq_false_iff_ne]; exact fun h => e h.symm)]) (by
      unfold LatStill_L1
      rw [if_false' (dec_f (by omega))])
    rw [bindE_inl hloop]
  · have h : lat_Still (toI ns) f = some ((0 : Int), (0 : Int), c) := by
      unfold lat_Still
      rw [bind_of c1, if_true' (by rw [bne_iff_ne]; exact h0)]
    rw [bind_of h, if_true' (by rw [bne_iff_ne]; exact h0), c1, letO_def, ck_in (by intro _; rfl)]
    simp
end Go.Proofs.Ytaachifkgcdeoaa.Lt
