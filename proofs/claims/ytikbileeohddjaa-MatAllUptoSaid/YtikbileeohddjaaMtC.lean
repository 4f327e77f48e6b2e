/- Matrices: what is believed is true (MatTrue). -/
import Derived.Test.YtikbileeohddjaaMtB
open Go Go.Proofs.Ytikbileeohddjaa.Sy Go.Proofs.Ytikbileeohddjaa.Pu
set_option linter.unusedVariables false
set_option linter.unusedSimpArgs false
namespace Go.Proofs.Ytikbileeohddjaa.Mt
theorem init_ok {n : Nat} (h1 : 1 ≤ n) (h6 : n ≤ 6) : ∃ ms kn, loopO (fun x : List MV × List (List Int) × Int => knowing_L1 (n : Int) x.1 x.2.1 x.2.2) (([] : List MV), List.replicate n ([] : List Int), (0 : Int)) = some (.inl (ms, kn)) ∧ Inv n ms (List.replicate n 0) kn ∧ ∀ i, i < n → ∀ a k, mg (mat ms i) a k = 0 := by
  obtain ⟨z, z1, ms, kn, rfl, z2, z3, z4, z5⟩ := loop_count (B := fun x : List MV × List (List Int) × Int => knowing_L1 (n : Int) x.1 x.2.1 x.2.2) (fun k x => x.2.2 = (k : Int) ∧ x.1.length = k ∧ (∀ i, i < k → x.1.getD i ((0 : Int), (0 : Int), List.replicate 6 (List.replicate 6 (0 : Int)), ()) = ((n : Int), (i : Int), List.replicate 6 (List.replicate 6 (0 : Int)), ())) ∧ x.2.1.length = n ∧ ∀ i, i < k → x.2.1.getD i [] = List.replicate n 0) n (fun z => ∃ ms kn, z = .inl (ms, kn) ∧ ms.length = n ∧ (∀ i, i < n → ms.getD i ((0 : Int), (0 : Int), List.replicate 6 (List.replicate 6 (0 : Int)), ()) = ((n : Int), (i : Int), List.replicate 6 (List.replicate 6 (0 : Int)), ())) ∧ kn.length = n ∧ ∀ i, i < n → kn.getD i [] = List.replicate n 0) (x := (([] : List MV), List.replicate n ([] : List Int), (0 : Int))) ⟨rfl, rfl, fun i hi => by omega, by simp, fun i hi => by omega⟩ (by
    rintro k ⟨ms, kn, kk⟩ hk ⟨e1, e2, e3, e4, e5⟩
    dsimp only at e1 e2 e3 e4 e5
    subst e1
    unfold knowing_L1
    dsimp only
    rw [if_true' (dec_t (by omega)), bind_of (new_ok h1 h6 hk), if_false' (by simp), ck_in (le_maxL (by simp; omega)), letO_def, ck_in (by omega), ck_in (le_maxL (by omega)), ck_in (by omega), letO_def, inc64 (by omega)]
    refine ⟨_, rfl, rfl, by simp [e2], fun i hi => ?_, by simpa using e4, fun i hi => ?_⟩
    · dsimp only
      rw [getD_app, e2]
      by_cases e : i = k
      · rw [if_pos e, e]
      · rw [if_neg e]; exact e3 i (by omega)
    · dsimp only
      simp only [Int.toNat_natCast]
      rw [getD_setD (by omega)]
      by_cases e : i = k
      · rw [if_pos e]
      · rw [if_neg e]; exact e5 i (by omega)) (by
    rintro ⟨ms, kn, kk⟩ ⟨e1, e2, e3, e4, e5⟩
    dsimp only at e1 e2 e3 e4 e5
    subst e1
    unfold knowing_L1
    dsimp only
    rw [if_false' (dec_f (by omega))]
    exact ⟨_, rfl, ms, kn, rfl, e2, e3, e4, e5⟩)
  have hm : ∀ i, i < n → mat ms i = List.replicate 6 (List.replicate 6 (0 : Int)) := fun i hi => by unfold mat; rw [z3 i hi]
  have hz : ∀ i, i < n → ∀ a k, mg (mat ms i) a k = 0 := fun i hi a k => by rw [hm i hi, mg_zero]
  have hk : ∀ i k, i < n → kg kn i k = 0 := fun i k hi => by unfold kg; rw [z5 i hi, getD_rep]
  refine ⟨ms, kn, z1, ⟨z2, by simp, z4, fun i hi => by rw [z5 i hi]; simp, fun i hi => by rw [z3 i hi, hm i hi], fun i hi => by rw [hm i hi]; exact sq_zero, fun i a k hi _ _ => by rw [hz i hi]; omega, fun i a k hi _ _ h => by rw [hz i hi] at h; omega, fun i k hi _ => by rw [hz i hi, hk i k hi], fun i a k hi _ _ => by rw [hz i hi, hz i hi]; omega, fun i a k hi ha _ => by rw [hz i hi, hk a k ha]; omega, fun i k hi _ => by rw [hk i k hi, getD_rep]; omega, fun k hk' => by rw [hk k k hk', getD_rep]⟩, hz⟩
theorem run_ok {n : Nat} (h1 : 1 ≤ n) (h6 : n ≤ 6) {t1 : List MoveV} (hl : t1.length ≤ 4294967296) {ms : List MV} {did : List Int} {kn : List (List Int)} (h : Inv n ms did kn) :
    ∃ ms' did' kn', loopO (fun x : List MV × List Int × List (List Int) × Int => knowing_L2 (n : Int) t1 (t1.length : Int) x.1 x.2.1 x.2.2.1 x.2.2.2) (ms, did, kn, (0 : Int)) = some (.inl (ms', did', kn')) ∧ Inv n ms' did' kn' := by
  obtain ⟨z, z1, ms', did', kn', rfl, z2⟩ := loop_count (B := fun x : List MV × List Int × List (List Int) × Int => knowing_L2 (n : Int) t1 (t1.length : Int) x.1 x.2.1 x.2.2.1 x.2.2.2) (fun k x => x.2.2.2 = (k : Int) ∧ Inv n x.1 x.2.1 x.2.2.1) t1.length (fun z => ∃ ms' did' kn', z = .inl (ms', did', kn') ∧ Inv n ms' did' kn') (x := (ms, did, kn, (0 : Int))) ⟨rfl, h⟩ (by
    rintro k ⟨ms, did, kn, kk⟩ hk ⟨e1, e2⟩
    dsimp only at e1 e2
    subst e1
    obtain ⟨ms', did', kn', s1, s2, _⟩ := step_ok h1 h6 e2 hk hl
    exact ⟨_, s1, rfl, s2⟩) (by
    rintro ⟨ms, did, kn, kk⟩ ⟨e1, e2⟩
    dsimp only at e1 e2
    subst e1
    unfold knowing_L2
    dsimp only
    rw [if_false' (dec_f (by omega))]
    exact ⟨_, rfl, ms, did, kn, rfl, e2⟩)
  exact ⟨ms', did', kn', z1, z2⟩
theorem knowing_of {n : Nat} (h1 : 1 ≤ n) (h6 : n ≤ 6) {t1 : List MoveV} {ms ms' : List MV} {did' : List Int} {kn kn' : List (List Int)}
    (hi : loopO (fun x : List MV × List (List Int) × Int => knowing_L1 (n : Int) x.1 x.2.1 x.2.2) (([] : List MV), List.replicate n ([] : List Int), (0 : Int)) = some (.inl (ms, kn)))
    (hr : loopO (fun x : List MV × List Int × List (List Int) × Int => knowing_L2 (n : Int) t1 (t1.length : Int) x.1 x.2.1 x.2.2.1 x.2.2.2) (ms, List.replicate n 0, kn, (0 : Int)) = some (.inl (ms', did', kn'))) :
    knowing (n : Int) t1 = some (ms', did', kn', true) := by
  unfold knowing
  rw [ck_in (by omega), ck_in (le_maxL (by omega)), letO_def, ck_in (by omega), ck_in (le_maxL (by omega)), letO_def]
  simp only [Int.toNat_natCast]
  rw [bindE_inl hi, letO_def, bindE_inl hr]
theorem knowing_ok {n : Nat} (h1 : 1 ≤ n) (h6 : n ≤ 6) {t1 : List MoveV} (hl : t1.length ≤ 4294967296) : ∃ ms did kn, knowing (n : Int) t1 = some (ms, did, kn, true) ∧ Inv n ms did kn := by
  obtain ⟨ms, kn, i1, i2, _⟩ := init_ok h1 h6
  obtain ⟨ms', did', kn', r1, r2⟩ := run_ok h1 h6 hl i2
  exact ⟨ms', did', kn', knowing_of h1 h6 i1 r1, r2⟩
theorem knowing_two : ∃ ms did kn, knowing (2 : Int) [((0 : Int), (0 : Int), (0 : Int), ()), ((1 : Int), (1 : Int), (0 : Int), ()), ((1 : Int), (0 : Int), (1 : Int), ())] = some (ms, did, kn, true) ∧ ms.length = 2 ∧ mg (mat ms 0) 1 0 = 1 ∧ mg (mat ms 1) 1 0 = 1 := by
  generalize ht : [((0 : Int), (0 : Int), (0 : Int), ()), ((1 : Int), (1 : Int), (0 : Int), ()), ((1 : Int), (0 : Int), (1 : Int), ())] = t1
  have hlen : t1.length = 3 := by rw [← ht]; rfl
  obtain ⟨m0, k0, i1, i2, i3⟩ := init_ok (n := 2) (by omega) (by omega)
  obtain ⟨m1, d1, k1, a1, a2, a3, _⟩ := step_ok (t1 := t1) (by omega) (by omega) i2 (k := 0) (by omega) (by omega)
  obtain ⟨m2, d2, k2, b1, b2, _, b3⟩ := step_ok (t1 := t1) (by omega) (by omega) a2 (k := 1) (by omega) (by omega)
  obtain ⟨m3, d3, k3, c1, c2, _, c3⟩ := step_ok (t1 := t1) (by omega) (by omega) b2 (k := 2) (by omega) (by omega)
  rw [← ht] at a3 b3 c3
  have a4 : ∀ i a k, i < 2 → a < 6 → k < 6 → mg (mat m1 i) a k = if i = 0 ∧ a = 0 ∧ k = 0 then mg (mat m0 0) 0 0 + 1 else mg (mat m0 i) a k := a3 rfl (by show mg (mat m0 0) 0 0 ≠ _; rw [i3 0 (by omega)]; decide)
  have b4 : ∀ i a k, i < 2 → a < 6 → k < 6 → mg (mat m2 i) a k = if i = 1 then (if a = 1 then mxI (mxI (mg (mat m1 1) a k) (mg (mat m1 0) a k)) (mg (mat m1 0) 0 k) else mxI (mg (mat m1 1) a k) (mg (mat m1 0) a k)) else mg (mat m1 i) a k := b3 (by decide) (by decide)
  have c4 : ∀ i a k, i < 2 → a < 6 → k < 6 → mg (mat m3 i) a k = if i = 0 then (if a = 0 then mxI (mxI (mg (mat m2 0) a k) (mg (mat m2 1) a k)) (mg (mat m2 1) 1 k) else mxI (mg (mat m2 0) a k) (mg (mat m2 1) a k)) else mg (mat m2 i) a k := c3 (by decide) (by decide)
  have z := fun i (hi : i < 2) => i3 i hi
  have x00 : mg (mat m1 0) 0 0 = 1 := by rw [a4 0 0 0 (by omega) (by omega) (by omega), if_pos ⟨rfl, rfl, rfl⟩, z 0 (by omega)]; rfl
  have x010 : mg (mat m1 0) 1 0 = 0 := by rw [a4 0 1 0 (by omega) (by omega) (by omega), if_neg (by omega), z 0 (by omega)]
  have x110 : mg (mat m1 1) 1 0 = 0 := by rw [a4 1 1 0 (by omega) (by omega) (by omega), if_neg (by omega), z 1 (by omega)]
  have y110 : mg (mat m2 1) 1 0 = 1 := by rw [b4 1 1 0 (by omega) (by omega) (by omega), if_pos rfl, if_pos rfl, x110, x010, x00]; decide
  have y010 : mg (mat m2 0) 1 0 = 0 := by rw [b4 0 1 0 (by omega) (by omega) (by omega), if_neg (by omega), x010]
  have w010 : mg (mat m3 0) 1 0 = 1 := by rw [c4 0 1 0 (by omega) (by omega) (by omega), if_pos rfl, if_neg (by omega), y010, y110]; decide
  have w110 : mg (mat m3 1) 1 0 = 1 := by rw [c4 1 1 0 (by omega) (by omega) (by omega), if_neg (by omega), y110]
  refine ⟨m3, d3, k3, ?_, c2.lm, w010, w110⟩
  refine knowing_of (n := 2) (by omega) (by omega) i1 ?_
  have e0 : (((0 + 1 : Nat) : Int)) = ((1 : Nat) : Int) := rfl
  refine (loopO_next a1).trans ((loopO_next b1).trans ((loopO_next c1).trans (loopO_done ?_)))
  unfold knowing_L2
  dsimp only
  rw [if_false' (dec_f (by omega))]
theorem true_law (t0 : Int) (t1 : List MoveV) (hl : t1.length ≤ 4294967296) : MatTrue t0 t1 = some true := by
  obtain ⟨ms, did, kn, k1, k2, k3, k4⟩ := knowing_two
  unfold mg mat at k3 k4
  unfold MatTrue
  rw [bind_of k1]
  dsimp only
  rw [ck_in (fun _ => by omega), ck_in (fun _ => by omega), ck_in (fun _ => by omega), ck_in (fun _ => by omega), ck_in (fun _ => by omega), ck_in (fun _ => by omega), k3, k4, if_false' (by rfl)]
  obtain ⟨n, n1, n2, n3⟩ := few_ok t0
  obtain ⟨ms, did, kn, r1, r2⟩ := knowing_ok n2 n3 hl
  have hlm := r2.lm
  have hld := r2.ld
  have hlk := r2.lk
  rw [bind_of n1, bind_of r1]
  dsimp only
  rw [if_false' (by rfl), letO_def]
  refine bindE_inl (y := ()) (loop_from (fun k => (k : Int)) n rfl (fun i hi => ?_) ?_)
  · obtain ⟨o, s⟩ := r2.ok n2 n3 hi
    obtain ⟨f, f1, f2, f3⟩ := firm_ok o s
    have ck := check_ok o
    unfold MatTrue_L1
    dsimp only
    rw [if_true' (dec_t (by omega)), ck_in (by omega), letO_def, Int.toNat_natCast, bind_of f1, ck, letO_def]
    rw [r2.at_ i hi] at f3 ⊢
    dsimp only at f3 ⊢
    rw [ck_in (fun _ => by rfl), if_false' (by rfl)]
    refine (bindE_inl (y := ()) (loop_from (fun k => (k : Int)) n rfl (fun a ha => ?_) ?_)).trans (by rw [inc64 (by omega)])
    · unfold MatTrue_L2
      rw [if_true' (dec_t (by omega))]
      refine (bindE_inl (y := ()) (loop_from (fun k => (k : Int)) n rfl (fun k hk => ?_) ?_)).trans (by rw [inc64 (by omega)])
      · have hra := r2.rk a ha
        have hri := r2.rk i hi
        have q1 := f3 a k (by omega) (by omega)
        have q2 := r2.le2 i a k hi ha hk
        have q3 := r2.own i k hi hk
        have q4 := r2.le3 i k hi hk
        unfold mg at q1 q2 q3
        unfold kg at q2 q3 q4
        unfold MatTrue_L3
        dsimp only
        simp only [Int.toNat_natCast]
        have c6a : 0 ≤ (a : Int) ∧ (a : Int) < 6 := by omega
        have c6i : 0 ≤ (i : Int) ∧ (i : Int) < 6 := by omega
        have c6k : 0 ≤ (k : Int) ∧ (k : Int) < 6 := by omega
        have cna : 0 ≤ (a : Int) ∧ (a : Int) < ((kn.length : Nat) : Int) := by omega
        have cni : 0 ≤ (i : Int) ∧ (i : Int) < ((kn.length : Nat) : Int) := by omega
        have cka : 0 ≤ (k : Int) ∧ (k : Int) < (((kn.getD a []).length : Nat) : Int) := by omega
        have cki : 0 ≤ (k : Int) ∧ (k : Int) < (((kn.getD i []).length : Nat) : Int) := by omega
        have ckd : 0 ≤ (k : Int) ∧ (k : Int) < ((did.length : Nat) : Int) := by omega
        rw [if_true' (dec_t (by omega)), ck_in c6k, ck_in cna, ck_in cka, ck_in (fun _ => c6a), ck_in (fun _ => c6k), ck_in (fun _ => cna), ck_in (fun _ => cka), ck_in (fun _ => c6i), ck_in (fun _ => c6k), ck_in (fun _ => cni), ck_in (fun _ => cki), ck_in (fun _ => cni), ck_in (fun _ => cki), ck_in (fun _ => ckd), if_false' ?_, inc64 (by omega)]
        simp only [Bool.or_eq_false_iff]
        refine ⟨⟨⟨dec_f (by omega), dec_f (by omega)⟩, ?_⟩, dec_f (by omega)⟩
        rw [q3]
        simp
      · unfold MatTrue_L3
        rw [if_false' (dec_f (by omega))]
    · unfold MatTrue_L2
      rw [if_false' (dec_f (by omega))]
  · unfold MatTrue_L1
    rw [if_false' (dec_f (by omega))]
end Go.Proofs.Ytikbileeohddjaa.Mt
