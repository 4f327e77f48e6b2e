/- Matrices: once all have met all, twice, everybody knows all (MatAll). -/
import Derived.Test.YtikbileeohddjaaMtC
open Go Go.Proofs.Ytikbileeohddjaa.Sy Go.Proofs.Ytikbileeohddjaa.Pu
set_option linter.unusedVariables false
set_option linter.unusedSimpArgs false
namespace Go.Proofs.Ytikbileeohddjaa.Mt
theorem step_eq {n : Nat} (h1 : 1 ≤ n) (h6 : n ≤ 6) {t1 : List MoveV} {ms : List MV} {did : List Int} {kn : List (List Int)} {k : Nat} (hk : k < t1.length) (hl : t1.length ≤ 4294967296)
    (h0 : (t1.getD k ((0 : Int), (0 : Int), (0 : Int), ())).1 ≠ 0) {p : Nat} (hp : p < n) (hr : (t1.getD k ((0 : Int), (0 : Int), (0 : Int), ())).2.1 = (p : Int)) (hb : (t1.getD k ((0 : Int), (0 : Int), (0 : Int), ())).2.2.1 = (p : Int)) :
    knowing_L2 (n : Int) t1 (t1.length : Int) ms did kn (k : Int) = some (.inl (ms, did, kn, ((k + 1 : Nat) : Int))) := by
  unfold knowing_L2
  rw [if_true' (dec_t (by omega)), ck_in (by omega), letO_def, Int.toNat_natCast]
  generalize t1.getD k ((0 : Int), (0 : Int), (0 : Int), ()) = e at h0 hr hb ⊢
  have e1 : ((p : Int) % (n : Int)) = p := Int.emod_eq_of_lt (by omega) (by omega)
  rw [bind_of (rest_eq _ _ (by omega) (by omega)), bind_of (rest_eq _ _ (by omega) (by omega)), hr, hb, e1]
  simp only [knowing_J3, inc64 (show k < 1000000000000 by omega)]
  rw [if_false' (by simpa using h0), if_false' (by simp)]
/-- The j-th meeting. -/
def ent (n j : Nat) : MoveV := ((1 : Int), (((j / n) % n : Nat) : Int), ((j % n : Nat) : Int), ())
def meets (n m : Nat) : List MoveV := (List.range m).map (ent n)
theorem meets_succ (n m : Nat) : meets n (m + 1) = meets n m ++ [ent n m] := by simp [meets, List.range_succ]
theorem meets_len (n m : Nat) : (meets n m).length = m := by simp [meets]
theorem ent_at {n c p q : Nat} (hp : p < n) (hq : q < n) : ent n ((c * n + p) * n + q) = ((1 : Int), (p : Int), (q : Int), ()) := by
  unfold ent
  have e1 : ((c * n + p) * n + q) / n = c * n + p := by
    rw [Nat.add_comm, Nat.add_mul_div_right _ _ (by omega), Nat.div_eq_of_lt hq, Nat.zero_add]
  have e2 : ((c * n + p) * n + q) % n = q := by rw [Nat.add_comm, Nat.add_mul_mod_self_right, Nat.mod_eq_of_lt hq]
  have e3 : (c * n + p) % n = p := by rw [Nat.add_comm, Nat.add_mul_mod_self_right, Nat.mod_eq_of_lt hp]
  rw [e1, e2, e3]
theorem all_list {n : Nat} (h1 : 1 ≤ n) (h6 : n ≤ 6) {t1 : List MoveV} (hl : t1.length ≤ 1048576) :
    loopO (fun x : List MoveV × Int => MatAll_L1 (n : Int) (2 * (n : Int)) x.1 x.2) (t1, (0 : Int)) = some (t1 ++ meets n (2 * n * (n * n))) := by
  have hnn : n * n ≤ 36 := Nat.mul_le_mul h6 h6
  have hL3 : ∀ c p, c < 2 * n → p < n → loopO (fun x : List MoveV × Int => MatAll_L3 (n : Int) (p : Int) x.1 x.2) (t1 ++ meets n ((c * n + p) * n), (0 : Int)) = some (t1 ++ meets n ((c * n + (p + 1)) * n)) := by
    intro c p hc hp
    have hcn : (c * n + p) * n ≤ 12 * 36 := by
      have a : c * n + p ≤ 12 * n := by
        have : c * n ≤ 11 * n := Nat.mul_le_mul_right n (by omega)
        omega
      have b := Nat.mul_le_mul_right n a
      have d : 12 * n * n = 12 * (n * n) := Nat.mul_assoc _ _ _
      omega
    refine loop_from (fun q => (t1 ++ meets n ((c * n + p) * n + q), (q : Int))) n rfl (fun q hq => ?_) ?_
    · unfold MatAll_L3
      dsimp only
      rw [if_true' (dec_t (by omega)), ck_in (le_maxL (by rw [List.length_append, meets_len]; simp only [List.length_cons, List.length_nil]; omega)), letO_def, inc64 (by omega), ← Nat.add_assoc, meets_succ, ent_at hp hq, List.append_assoc]
    · unfold MatAll_L3
      dsimp only
      rw [if_false' (dec_f (by omega))]
      rw [show (c * n + p) * n + n = (c * n + (p + 1)) * n by rw [← Nat.add_assoc, Nat.succ_mul]]
  have hL2 : ∀ c, c < 2 * n → loopO (fun x : List MoveV × Int => MatAll_L2 (n : Int) x.1 x.2) (t1 ++ meets n (c * n * n), (0 : Int)) = some (t1 ++ meets n ((c + 1) * n * n)) := by
    intro c hc
    refine loop_from (fun p => (t1 ++ meets n ((c * n + p) * n), (p : Int))) n rfl (fun p hp => ?_) ?_
    · unfold MatAll_L2
      dsimp only
      rw [if_true' (dec_t (by omega)), bind_of (hL3 c p hc hp), inc64 (by omega)]
    · unfold MatAll_L2
      dsimp only
      rw [if_false' (dec_f (by omega)), ← Nat.succ_mul]
  refine loop_from (fun c => (t1 ++ meets n (c * n * n), (c : Int))) (2 * n) (by simp [meets]) (fun c hc => ?_) ?_
  · unfold MatAll_L1
    dsimp only
    rw [if_true' (dec_t (by omega)), bind_of (hL2 c hc), inc64 (by omega)]
  · unfold MatAll_L1
    dsimp only
    rw [if_false' (dec_f (by omega)), Nat.mul_assoc (2 * n) n n]
/-- Behind j meetings: who has heard all of whom, and whose rows are full. -/
structure Met (n : Nat) (D : Nat → Int) (j : Nat) (ms : List MV) (did : List Int) (kn : List (List Int)) : Prop where
  inv : Inv n ms did kn
  did_ : ∀ k, k < n → did.getD k 0 = D k
  one : ∀ p q, p < n → q < n → p * n + q < j → kg kn p q = D q
  two : ∀ p q k, p < n → q < n → k < n → n * n + p * n + q < j → mg (mat ms p) q k = D k
theorem met_all {n : Nat} {D : Nat → Int} {j : Nat} {ms : List MV} {did : List Int} {kn : List (List Int)} (h : Met n D j ms did kn) (hj : n * n ≤ j) {p q : Nat} (hp : p < n) (hq : q < n) : kg kn p q = D q := by
  refine h.one p q hp hq ?_
  have : (p + 1) * n ≤ n * n := Nat.mul_le_mul_right n hp
  rw [Nat.succ_mul] at this
  omega
theorem digits {n j : Nat} (h1 : 1 ≤ n) : ∃ c p q, p < n ∧ q < n ∧ j = (c * n + p) * n + q := by
  refine ⟨j / n / n, j / n % n, j % n, Nat.mod_lt _ h1, Nat.mod_lt _ h1, ?_⟩
  have a := Nat.div_add_mod j n
  have b := Nat.div_add_mod (j / n) n
  rw [Nat.mul_comm (j / n / n) n, b, Nat.mul_comm (j / n) n]
  exact a.symm
theorem order_eq {n p q p' q' : Nat} (hq : q < n) (hq' : q' < n) (h : p * n + q < p' * n + q' + 1) : p * n + q < p' * n + q' ∨ (p = p' ∧ q = q') := by
  by_cases e : p * n + q < p' * n + q'
  · exact .inl e
  · right
    have e2 : p * n + q = p' * n + q' := by omega
    have : p = p' := by
      rcases Nat.lt_trichotomy p p' with h | h | h
      · have := Nat.mul_le_mul_right n (show p + 1 ≤ p' from h)
        rw [Nat.succ_mul] at this; omega
      · exact h
      · have := Nat.mul_le_mul_right n (show p' + 1 ≤ p from h)
        rw [Nat.succ_mul] at this; omega
    subst this
    exact ⟨rfl, by omega⟩
theorem met_step {n : Nat} (h1 : 1 ≤ n) (h6 : n ≤ 6) {D : Nat → Int} {t : List MoveV} {k j : Nat} (hk : k < t.length) (hl : t.length ≤ 4294967296) (he : t.getD k ((0 : Int), (0 : Int), (0 : Int), ()) = ent n j) {ms : List MV} {did : List Int} {kn : List (List Int)} (h : Met n D j ms did kn) :
    ∃ ms' did' kn', knowing_L2 (n : Int) t (t.length : Int) ms did kn (k : Int) = some (.inl (ms', did', kn', ((k + 1 : Nat) : Int))) ∧ Met n D (j + 1) ms' did' kn' := by
  obtain ⟨c, p, q, hp, hq, rfl⟩ := digits (n := n) (j := j) h1
  rw [ent_at hp hq] at he
  have hj : (c * n + p) * n + q = c * (n * n) + (p * n + q) := by rw [Nat.add_mul, Nat.mul_assoc]; omega
  have hpq : p * n + q < n * n := by
    have : (p + 1) * n ≤ n * n := Nat.mul_le_mul_right n hp
    rw [Nat.succ_mul] at this
    omega
  -- who is met again tells nothing new
  have hone : ∀ {ms' : List MV} {did' : List Int} {kn' : List (List Int)}, Inv n ms' did' kn' → (∀ k, k < n → did'.getD k 0 = D k) → (∀ a b, a < n → b < n → kg kn a b ≤ kg kn' a b) → kg kn' p q = D q →
      ∀ a b, a < n → b < n → a * n + b < (c * n + p) * n + q + 1 → kg kn' a b = D b := by
    intro ms' did' kn' hi hd hm hpd a b ha hb hab
    have l3 := hi.le3 a b ha hb
    rw [hd b hb] at l3
    by_cases hc : c = 0
    · subst hc
      rw [Nat.zero_mul, Nat.zero_add] at hab
      rcases order_eq hb hq hab with e | ⟨rfl, rfl⟩
      · have := h.one a b ha hb (by rw [Nat.zero_mul, Nat.zero_add]; exact e)
        have := hm a b ha hb
        omega
      · exact hpd
    · have : n * n ≤ (c * n + p) * n + q := by
        have := Nat.mul_le_mul_right (n * n) (show 1 ≤ c by omega)
        omega
      have := met_all h this ha hb
      have := hm a b ha hb
      omega
  have htwo : ∀ {ms' : List MV} {did' : List Int} {kn' : List (List Int)}, Inv n ms' did' kn' → (∀ k, k < n → did'.getD k 0 = D k) → (∀ a b k, a < n → b < n → k < n → mg (mat ms a) b k ≤ mg (mat ms' a) b k) → (n * n ≤ (c * n + p) * n + q → ∀ k, k < n → mg (mat ms' p) q k = D k) →
      ∀ a b k, a < n → b < n → k < n → n * n + a * n + b < (c * n + p) * n + q + 1 → mg (mat ms' a) b k = D k := by
    intro ms' did' kn' hi hd hm hpd a b k ha hb hk' hab
    have l2 := hi.le2 a b k ha hb hk'
    have l3 := hi.le3 b k hb hk'
    rw [hd k hk'] at l3
    have hold : n * n + a * n + b < (c * n + p) * n + q → mg (mat ms' a) b k = D k := fun hlt => by
      have := h.two a b k ha hb hk' hlt
      have := hm a b k ha hb hk'
      omega
    by_cases hlt : n * n + a * n + b < (c * n + p) * n + q
    · exact hold hlt
    · have e : n * n + a * n + b = (c * n + p) * n + q := by omega
      have hc1 : c = 1 := by
        rcases Nat.lt_trichotomy c 1 with h | h | h
        · have : c = 0 := by omega
          subst this
          omega
        · exact h
        · have h2 := Nat.mul_le_mul_right (n * n) (show 2 ≤ c from h)
          have h3 : (a + 1) * n ≤ n * n := Nat.mul_le_mul_right n ha
          rw [Nat.succ_mul] at h3
          omega
      subst hc1
      have e2 : a * n + b = p * n + q := by omega
      rcases order_eq (p := a) (p' := p) hb hq (by omega) with e3 | ⟨rfl, rfl⟩
      · omega
      · exact hpd (by omega) k hk'
  by_cases hpq2 : p = q
  · subst hpq2
    refine ⟨ms, did, kn, step_eq h1 h6 hk hl (by rw [he]; exact (by decide : (1 : Int) ≠ 0)) hp (by rw [he]) (by rw [he]), h.inv, h.did_, hone h.inv h.did_ (fun _ _ _ _ => Int.le_refl _) (by rw [h.inv.eq p hp, h.did_ p hp]), htwo h.inv h.did_ (fun _ _ _ _ _ _ => Int.le_refl _) fun hnn k hk' => ?_⟩
    rw [h.inv.own p k hp hk']
    exact met_all h hnn hp hk'
  · obtain ⟨ms', did', kn', s1, s2, _, s3⟩ := step_ok h1 h6 h.inv hk hl
    rw [he] at s3
    have ep : ((p : Int) % (n : Int)).toNat = p := by rw [Int.emod_eq_of_lt (by omega) (by omega)]; rfl
    have eq' : ((q : Int) % (n : Int)).toNat = q := by rw [Int.emod_eq_of_lt (by omega) (by omega)]; rfl
    have s4 := s3 (by dsimp only; decide) (by dsimp only; rw [ep, eq']; exact hpq2)
    dsimp only at s4
    rw [ep, eq'] at s4
    have hmono : ∀ a b k, a < n → b < n → k < n → mg (mat ms a) b k ≤ mg (mat ms' a) b k := by
      intro a b k ha hb hk'
      rw [s4 a b k ha (by omega) (by omega)]
      have c1 := mxI_cases (mg (mat ms p) b k) (mg (mat ms q) b k)
      have c2 := mxI_cases (mxI (mg (mat ms p) b k) (mg (mat ms q) b k)) (mg (mat ms q) q k)
      by_cases e : a = p
      · subst e
        rw [if_pos rfl]
        split <;> omega
      · rw [if_neg e]; exact Int.le_refl _
    have hkg : ∀ a k, a < n → k < n → kg kn' a k = mg (mat ms' a) a k := fun a k ha hk' => (s2.own a k ha hk').symm
    have hkm : ∀ a b, a < n → b < n → kg kn a b ≤ kg kn' a b := fun a b ha hb => by
      rw [hkg a b ha hb, ← h.inv.own a b ha hb]
      exact hmono a a b ha ha hb
    have hdid : ∀ k, k < n → did'.getD k 0 = D k := by
      intro k hk'
      rw [← s2.eq k hk', hkg k k hk' hk', s4 k k k hk' (by omega) (by omega), ← h.did_ k hk', ← h.inv.eq k hk']
      have o1 := h.inv.own k k hk' hk'
      by_cases e : k = p
      · subst e
        rw [if_pos rfl, if_pos rfl]
        have c1 := mxI_cases (mg (mat ms k) k k) (mg (mat ms q) k k)
        have c2 := mxI_cases (mxI (mg (mat ms k) k k) (mg (mat ms q) k k)) (mg (mat ms q) q k)
        have l1 := h.inv.le2 q k k hq hk' hk'
        have l2 := h.inv.le2 q q k hq hq hk'
        have l3 := h.inv.le3 q k hq hk'
        have l4 := h.inv.eq k hk'
        omega
      · rw [if_neg e, o1]
    refine ⟨ms', did', kn', s1, s2, hdid, hone s2 hdid hkm ?_, htwo s2 hdid hmono fun hnn k hk' => ?_⟩
    · rw [hkg p q hp hq, s4 p p q hp (by omega) (by omega), if_pos rfl, if_pos rfl]
      have c2 := mxI_cases (mxI (mg (mat ms p) p q) (mg (mat ms q) p q)) (mg (mat ms q) q q)
      have c1 := mxI_cases (mg (mat ms p) p q) (mg (mat ms q) p q)
      have o := h.inv.own q q hq hq
      have l4 := h.inv.eq q hq
      have l5 := h.did_ q hq
      have a1 := h.inv.le2 p p q hp hp hq
      have a2 := h.inv.le3 p q hp hq
      have a3 := h.inv.le2 q p q hq hp hq
      omega
    · have hu := s2.le2 p q k hp hq hk'
      have hu2 := s2.le3 q k hq hk'
      rw [hdid k hk'] at hu2
      have hd := met_all h hnn hq hk'
      have o := h.inv.own q k hq hk'
      have e := s4 p q k hp (by omega) (by omega)
      rw [if_pos rfl, if_neg (fun e => hpq2 e.symm)] at e
      have c1 := mxI_cases (mg (mat ms p) q k) (mg (mat ms q) q k)
      omega
theorem met_run {n : Nat} (h1 : 1 ≤ n) (h6 : n ≤ 6) {t1 : List MoveV} (hl : t1.length ≤ 1048576) : ∃ ms did kn, knowing (n : Int) (t1 ++ meets n (2 * n * (n * n))) = some (ms, did, kn, true) ∧ Inv n ms did kn ∧ ∀ p q k, p < n → q < n → k < n → mg (mat ms p) q k = did.getD k 0 := by
  have hnn : n * n ≤ 36 := Nat.mul_le_mul h6 h6
  have hm : 2 * n * (n * n) ≤ 12 * 36 := Nat.mul_le_mul (by omega) hnn
  generalize hN : 2 * n * (n * n) = N at hm
  have hN2 : 2 * (n * n) ≤ N := by rw [← hN]; exact Nat.mul_le_mul_right _ (by omega)
  obtain ⟨ms0, kn0, i1, i2, _⟩ := init_ok h1 h6
  have hlen : (t1 ++ meets n N).length = t1.length + N := by simp [meets_len]
  obtain ⟨z, z1, ms, did, kn, rfl, z2, z3⟩ := loop_count (B := fun x : List MV × List Int × List (List Int) × Int => knowing_L2 (n : Int) (t1 ++ meets n N) ((t1 ++ meets n N).length : Int) x.1 x.2.1 x.2.2.1 x.2.2.2)
    (fun k x => x.2.2.2 = (k : Int) ∧ Inv n x.1 x.2.1 x.2.2.1 ∧ (t1.length ≤ k → ∃ D, Met n D (k - t1.length) x.1 x.2.1 x.2.2.1)) (t1 ++ meets n N).length (fun z => ∃ ms did kn, z = .inl (ms, did, kn) ∧ Inv n ms did kn ∧ ∀ p q k, p < n → q < n → k < n → mg (mat ms p) q k = did.getD k 0) (x := (ms0, List.replicate n 0, kn0, (0 : Int)))
    ⟨rfl, i2, fun hk => ⟨fun k => (List.replicate n (0 : Int)).getD k 0, i2, fun _ _ => rfl, fun p q _ _ h => by omega, fun p q k _ _ _ h => by omega⟩⟩ (by
    rintro k ⟨ms, did, kn, kk⟩ hk ⟨e1, e2, e3⟩
    dsimp only at e1 e2 e3
    subst e1
    by_cases hkt : t1.length ≤ k
    · obtain ⟨D, hD⟩ := e3 hkt
      obtain ⟨ms', did', kn', s1, s2⟩ := met_step h1 h6 (t := t1 ++ meets n N) (j := k - t1.length) hk (by omega) (by
        rw [List.getD_eq_getElem?_getD, List.getElem?_append_right hkt]
        simp only [meets, List.getElem?_map]
        rw [List.getElem?_range (by omega)]
        rfl) hD
      exact ⟨_, s1, rfl, s2.inv, fun _ => ⟨D, by dsimp only; rw [show k + 1 - t1.length = k - t1.length + 1 by omega]; exact s2⟩⟩
    · obtain ⟨ms', did', kn', s1, s2, _⟩ := step_ok h1 h6 e2 (t1 := t1 ++ meets n N) hk (by omega)
      exact ⟨_, s1, rfl, s2, fun hk2 => ⟨fun k => did'.getD k 0, s2, fun _ _ => rfl, fun p q _ _ h => by omega, fun p q k _ _ _ h => by omega⟩⟩) (by
    rintro ⟨ms, did, kn, kk⟩ ⟨e1, e2, e3⟩
    dsimp only at e1 e2 e3
    subst e1
    unfold knowing_L2
    dsimp only
    rw [if_false' (dec_f (by omega))]
    refine ⟨_, rfl, ms, did, kn, rfl, e2, fun p q k hp hq hk => ?_⟩
    obtain ⟨D, hD⟩ := e3 (by omega)
    have : (p + 1) * n ≤ n * n := Nat.mul_le_mul_right n hp
    rw [Nat.succ_mul] at this
    rw [hD.two p q k hp hq hk (by omega), hD.did_ k hk])
  exact ⟨ms, did, kn, knowing_of h1 h6 i1 z1, z2, z3⟩
theorem firm_eq {m : MV} (h : Ok m) (hs : Sq m.2.2.1) {D : Nat → Int} (hD : ∀ a k : Nat, (a : Int) < m.1 → (k : Int) < m.1 → mg m.2.2.1 a k = D k) : ∃ f, mat_Firm m = some (f, 0) ∧ f.length = 6 ∧ ∀ k : Nat, (k : Int) < m.1 → f.getD k 0 = D k := by
  have hn1 := h.n1
  have hn6 := h.n6
  have hm0 := h.me0
  have hmn := h.men
  obtain ⟨f, f1, f2⟩ := loop_count (B := fun x : List Int × Int => mat_Firm_L1 m x.1 x.2) (fun k x => x.2 = (k : Int) ∧ x.1.length = 6 ∧ ∀ j : Nat, (j : Int) < m.1 → x.1.getD j 0 = D j) m.1.toNat (fun f => f.length = 6 ∧ ∀ j : Nat, (j : Int) < m.1 → f.getD j 0 = D j) (x := (m.2.2.1.getD m.2.1.toNat (List.replicate 6 (0 : Int)), (0 : Int))) ⟨rfl, hs.row _ (by omega), fun j hj => hD m.2.1.toNat j (by omega) hj⟩ (by
    rintro k ⟨c, kk⟩ hk ⟨e1, e2, e3⟩
    dsimp only at e1 e2 e3
    subst e1
    obtain ⟨d, d1, d2, d3⟩ := min_ok c (m.2.2.1.getD k (List.replicate 6 (0 : Int))) e2
    unfold mat_Firm_L1
    dsimp only
    rw [if_true' (dec_t (by omega)), ck_in (by omega), Int.toNat_natCast, bind_of d1, inc64 (by omega)]
    refine ⟨_, rfl, rfl, d2, fun j hj => ?_⟩
    dsimp only
    rw [d3 j (by omega)]
    have hc := mnI_cases (c.getD j 0) ((m.2.2.1.getD k (List.replicate 6 (0 : Int))).getD j 0)
    have a1 := e3 j hj
    have a2 : (m.2.2.1.getD k (List.replicate 6 (0 : Int))).getD j 0 = D j := hD k j (by omega) hj
    omega) (by
    rintro ⟨c, kk⟩ ⟨e1, e2, e3⟩
    dsimp only at e1 e2 e3
    subst e1
    unfold mat_Firm_L1
    dsimp only
    rw [if_false' (dec_f (by omega))]
    exact ⟨_, rfl, e2, e3⟩)
  refine ⟨f, ?_, f2.1, f2.2⟩
  unfold mat_Firm
  rw [letO_def, bind_of (check_ok h), if_false' (by rfl), ck_in (by omega), letO_def, bind_of f1]
theorem knowing_one : ∃ ms did kn, knowing (1 : Int) [((0 : Int), (0 : Int), (0 : Int), ())] = some (ms, did, kn, true) ∧ ms.length = 1 ∧ mg (mat ms 0) 0 0 = 1 := by
  generalize ht : [((0 : Int), (0 : Int), (0 : Int), ())] = t1
  have hlen : t1.length = 1 := by rw [← ht]; rfl
  obtain ⟨m0, k0, i1, i2, i3⟩ := init_ok (n := 1) (by omega) (by omega)
  obtain ⟨m1, d1, k1, a1, a2, a3, _⟩ := step_ok (t1 := t1) (by omega) (by omega) i2 (k := 0) (by omega) (by omega)
  rw [← ht] at a3
  have a4 : ∀ i a k, i < 1 → a < 6 → k < 6 → mg (mat m1 i) a k = if i = 0 ∧ a = 0 ∧ k = 0 then mg (mat m0 0) 0 0 + 1 else mg (mat m0 i) a k := a3 rfl (by show mg (mat m0 0) 0 0 ≠ _; rw [i3 0 (by omega)]; decide)
  refine ⟨m1, d1, k1, ?_, a2.lm, ?_⟩
  · refine knowing_of (n := 1) (by omega) (by omega) i1 ?_
    refine (loopO_next a1).trans (loopO_done ?_)
    unfold knowing_L2
    dsimp only
    rw [if_false' (dec_f (by omega))]
  · rw [a4 0 0 0 (by omega) (by omega) (by omega), if_pos ⟨rfl, rfl, rfl⟩, i3 0 (by omega)]; rfl
theorem clone_eq (l : List MoveV) (hl : l.length ≤ 1048576) : slices_Clone_Lpartkeep_Know_partkeep_Know l = some l := by
  unfold slices_Clone_Lpartkeep_Know_partkeep_Know
  refine nilO_in fun b hb => ?_
  cases b
  · rw [if_false' rfl, ck_in (le_maxL (by simp; omega)), List.nil_append]
  · rw [if_true' rfl]
    have : l = [] := List.length_eq_zero_iff.1 (by have := hb rfl; omega)
    rw [this]
theorem all_law (t0 : Int) (t1 : List MoveV) (hl : t1.length ≤ 1048576) : MatAll t0 t1 = some true := by
  obtain ⟨ms, did, kn, k1, k2, k3⟩ := knowing_one
  unfold mg mat at k3
  unfold MatAll
  rw [bind_of k1]
  dsimp only
  rw [ck_in (fun _ => by omega), ck_in (fun _ => by omega), ck_in (fun _ => by omega), k3, if_false' (by rfl)]
  obtain ⟨n, n1, n2, n3⟩ := few_ok t0
  have e2 : arR .mul .i64 2 (n : Int) = 2 * (n : Int) := mul64 (by omega) (by omega)
  obtain ⟨ms, did, kn, r1, r2, r3⟩ := met_run n2 n3 hl
  have hlm := r2.lm
  have hld := r2.ld
  rw [bind_of n1, bind_of (clone_eq t1 hl), letO_def, e2, bind_of (all_list n2 n3 hl), bind_of r1]
  dsimp only
  rw [if_false' (by rfl), letO_def]
  refine bindE_inl (y := ()) (loop_from (fun k => (k : Int)) n rfl (fun i hi => ?_) ?_)
  · obtain ⟨o, s⟩ := r2.ok n2 n3 hi
    obtain ⟨f, f1, f2, f3⟩ := firm_eq o s (D := fun k => did.getD k 0) (by
      rw [r2.at_ i hi]
      dsimp only
      intro a k ha hk
      exact r3 i a k hi (by omega) (by omega))
    unfold MatAll_L4
    dsimp only
    rw [if_true' (dec_t (by omega)), ck_in (by omega), letO_def, Int.toNat_natCast, bind_of f1]
    rw [r2.at_ i hi] at f3
    dsimp only at f3
    refine (bindE_inl (y := ()) (loop_from (fun k => (k : Int)) n rfl (fun k hk => ?_) ?_)).trans (by rw [inc64 (by omega)])
    · unfold MatAll_L5
      dsimp only
      rw [if_true' (dec_t (by omega)), ck_in (fun _ => by omega), ck_in (fun _ => by omega)]
      have g := f3 k (by omega)
      rw [if_false' (by simp only [Int.toNat_natCast]; rw [g]; simp), inc64 (by omega)]
    · unfold MatAll_L5
      rw [if_false' (dec_f (by omega))]
  · unfold MatAll_L4
    rw [if_false' (dec_f (by omega))]
end Go.Proofs.Ytikbileeohddjaa.Mt
