/- Matrices: knowing keeps what is known. -/
import Derived.Test.YtikbileeohddjaaMtA
open Go Go.Proofs.Ytikbileeohddjaa.Sy Go.Proofs.Ytikbileeohddjaa.Pu
set_option linter.unusedVariables false
set_option linter.unusedSimpArgs false
namespace Go.Proofs.Ytikbileeohddjaa.Mt
abbrev MoveV := Int × Int × Int × Unit
theorem rest_eq (a n : Int) (hn : 0 < n) (hb : n < 1000000000000) : R_Rest a n = some (a % n) := by
  unfold R_Rest
  rw [if_false' (dec_f (by omega)), ck_in (by omega), ck_in (by omega)]
  have h1 := Int.tmod_lt_of_pos a hn
  have h2 := Int.lt_tmod_of_pos a hn
  rw [rem64, rem64, add64 (by omega) (by omega), tmod_rest' a n hn]
theorem few_ok (a : Int) : ∃ n : Nat, few a = some (n : Int) ∧ 1 ≤ n ∧ n ≤ 6 := by
  unfold few
  rw [bind_of (rest_eq a 6 (by omega) (by omega)), add64 (by omega) (by omega)]
  exact ⟨(a % 6 + 1).toNat, by rw [Int.toNat_of_nonneg (by omega)], by omega, by omega⟩
def mat (ms : List MV) (i : Nat) : List (List Int) := (ms.getD i ((0 : Int), (0 : Int), List.replicate 6 (List.replicate 6 (0 : Int)), ())).2.2.1
def kg (kn : List (List Int)) (i k : Nat) : Int := (kn.getD i []).getD k 0
theorem mat_set {ms : List MV} {i : Nat} {m : MV} (h : i < ms.length) (j : Nat) : mat (ms.set i m) j = if j = i then m.2.2.1 else mat ms j := by
  unfold mat
  rw [getD_setD h]
  split <;> rfl
theorem kg_set {kn : List (List Int)} {i : Nat} {k : Nat} {v : Int} (h : i < kn.length) (hk : k < (kn.getD i []).length) (a b : Nat) : kg (kn.set i ((kn.getD i []).set k v)) a b = if a = i ∧ b = k then v else kg kn a b := by
  unfold kg
  rw [getD_setD h]
  by_cases e : a = i
  · subst e
    rw [if_pos rfl, getD_setD hk]
    by_cases e2 : b = k
    · rw [if_pos e2, if_pos ⟨rfl, e2⟩]
    · rw [if_neg e2, if_neg (fun h => e2 h.2)]
  · rw [if_neg e, if_neg (fun h => e h.1)]
structure Inv (n : Nat) (ms : List MV) (did : List Int) (kn : List (List Int)) : Prop where
  lm : ms.length = n
  ld : did.length = n
  lk : kn.length = n
  rk : ∀ i, i < n → (kn.getD i []).length = n
  at_ : ∀ i, i < n → ms.getD i ((0 : Int), (0 : Int), List.replicate 6 (List.replicate 6 (0 : Int)), ()) = ((n : Int), (i : Int), mat ms i, ())
  sq : ∀ i, i < n → Sq (mat ms i)
  cell : ∀ i a k, i < n → a < 6 → k < 6 → 0 ≤ mg (mat ms i) a k ∧ mg (mat ms i) a k ≤ 16777215
  out : ∀ i a k, i < n → a < 6 → k < 6 → 0 < mg (mat ms i) a k → a < n ∧ k < n
  own : ∀ i k, i < n → k < n → mg (mat ms i) i k = kg kn i k
  le1 : ∀ i a k, i < n → a < n → k < n → mg (mat ms i) a k ≤ mg (mat ms i) i k
  le2 : ∀ i a k, i < n → a < n → k < n → mg (mat ms i) a k ≤ kg kn a k
  le3 : ∀ i k, i < n → k < n → kg kn i k ≤ did.getD k 0
  eq : ∀ k, k < n → kg kn k k = did.getD k 0
theorem Inv.ok {n : Nat} {ms : List MV} {did : List Int} {kn : List (List Int)} (h : Inv n ms did kn) (h1 : 1 ≤ n) (h6 : n ≤ 6) {i : Nat} (hi : i < n) : Ok (ms.getD i ((0 : Int), (0 : Int), List.replicate 6 (List.replicate 6 (0 : Int)), ())) ∧ Sq (ms.getD i ((0 : Int), (0 : Int), List.replicate 6 (List.replicate 6 (0 : Int)), ())).2.2.1 := by
  rw [h.at_ i hi]
  refine ⟨⟨by dsimp only; omega, by dsimp only; omega, by dsimp only; omega, by dsimp only; omega, fun a k ha hk => h.cell i a k hi ha hk, fun a k ha hk hp => ?_, fun a k ha hk => ?_⟩, h.sq i hi⟩
  · have := h.out i a k hi ha hk hp
    dsimp only
    omega
  · dsimp only
    rw [Int.toNat_natCast]
    by_cases hp : 0 < mg (mat ms i) a k
    · have := h.out i a k hi ha hk hp
      exact h.le1 i a k hi this.1 this.2
    · have := h.cell i i k hi (by omega) hk
      omega
/-- One has done something. -/
theorem inv_did {n : Nat} {ms : List MV} {did : List Int} {kn : List (List Int)} (h : Inv n ms did kn) (h6 : n ≤ 6) {r : Nat} (hr : r < n) {M : List (List Int)} {v : Int} (hv : v = mg (mat ms r) r r) (hM : M = (mat ms r).set r (((mat ms r).getD r (List.replicate 6 (0 : Int))).set r (v + 1))) (hb : v ≤ 16777214) {d u : Int} (hd : d = did.getD r 0 + 1) (hu : u = kg kn r r + 1) :
    Inv n (ms.set r ((n : Int), (r : Int), M, ())) (did.set r d) (kn.set r ((kn.getD r []).set r u)) ∧ ∀ i a k, i < n → a < 6 → k < 6 → mg (mat (ms.set r ((n : Int), (r : Int), M, ())) i) a k = if i = r ∧ a = r ∧ k = r then v + 1 else mg (mat ms i) a k := by
  have hlm := h.lm
  have hld := h.ld
  have hlk := h.lk
  have hrk := h.rk r hr
  have hsq := h.sq r hr
  have hml := hsq.len
  have hrow := hsq.row r (by omega)
  have hmm : ∀ i, mat (ms.set r ((n : Int), (r : Int), M, ())) i = if i = r then M else mat ms i := fun i => mat_set (by omega) i
  have mgE : ∀ i a k, i < n → a < 6 → k < 6 → mg (mat (ms.set r ((n : Int), (r : Int), M, ())) i) a k = if i = r ∧ a = r ∧ k = r then v + 1 else mg (mat ms i) a k := by
    intro i a k hi ha hk
    rw [hmm]
    by_cases e : i = r
    · subst e
      rw [if_pos rfl, hM, mg_set (by omega)]
      by_cases e1 : a = i
      · subst e1
        rw [if_pos rfl, getD_setD (by omega)]
        by_cases e2 : k = a
        · rw [if_pos e2, if_pos ⟨rfl, rfl, e2⟩]
        · rw [if_neg e2, if_neg (fun h => e2 h.2.2)]; rfl
      · rw [if_neg e1, if_neg (fun h => e1 h.2.1)]
    · rw [if_neg e, if_neg (fun h => e h.1)]
  have kgE : ∀ i k, kg (kn.set r ((kn.getD r []).set r u)) i k = if i = r ∧ k = r then u else kg kn i k := fun i k => kg_set (by omega) (by omega) i k
  have hdE : ∀ k, (did.set r d).getD k 0 = if k = r then d else did.getD k 0 := fun k => getD_setD (by omega)
  refine ⟨⟨by simpa using hlm, by simpa using hld, by simpa using hlk, fun i hi => ?_, fun i hi => ?_, fun i hi => ?_, fun i a k hi ha hk => ?_, fun i a k hi ha hk hp => ?_, fun i k hi hk => ?_, fun i a k hi ha hk => ?_, fun i a k hi ha hk => ?_, fun i k hi hk => ?_, fun k hk => ?_⟩, mgE⟩
  · rw [getD_setD (by omega)]
    by_cases e : i = r
    · rw [if_pos e]; simpa using hrk
    · rw [if_neg e]; exact h.rk i hi
  · rw [hmm, getD_setD (by omega)]
    by_cases e : i = r
    · rw [if_pos e, if_pos e, e]
    · rw [if_neg e, if_neg e]; exact h.at_ i hi
  · rw [hmm]
    by_cases e : i = r
    · rw [if_pos e, hM]; exact sq_set hsq (by omega) (by simpa using hrow)
    · rw [if_neg e]; exact h.sq i hi
  · rw [mgE i a k hi ha hk]
    have := h.cell i a k hi ha hk
    have := h.cell r r r hr (by omega) (by omega)
    split <;> omega
  · rw [mgE i a k hi ha hk] at hp
    by_cases e : i = r ∧ a = r ∧ k = r
    · omega
    · rw [if_neg e] at hp; exact h.out i a k hi ha hk hp
  · rw [mgE i i k hi (by omega) (by omega), kgE]
    by_cases e : i = r ∧ k = r
    · rw [if_pos ⟨e.1, e.1, e.2⟩, if_pos e, hv, hu, h.own r r hr hr]
    · rw [if_neg (fun h => e ⟨h.1, h.2.2⟩), if_neg e]; exact h.own i k hi hk
  · rw [mgE i a k hi (by omega) (by omega), mgE i i k hi (by omega) (by omega)]
    have h1 := h.le1 i a k hi ha hk
    by_cases e : i = r ∧ k = r
    · rw [if_pos (show i = r ∧ i = r ∧ k = r from ⟨e.1, e.1, e.2⟩)]
      have h2 : mg (mat ms i) i k = v := by rw [e.1, e.2, hv]
      split <;> omega
    · rw [if_neg (fun h => e ⟨h.1, h.2.2⟩), if_neg (fun h => e ⟨h.1, h.2.2⟩)]; exact h1
  · rw [mgE i a k hi (by omega) (by omega), kgE]
    have h1 := h.le2 i a k hi ha hk
    have h2 := h.own r r hr hr
    by_cases e : a = r ∧ k = r
    · rw [if_pos e]
      obtain ⟨rfl, rfl⟩ := e
      split <;> omega
    · rw [if_neg e, if_neg (fun h => e h.2)]; exact h1
  · rw [kgE, hdE]
    have h1 := h.le3 i k hi hk
    have h2 := h.eq r hr
    by_cases e : k = r
    · subst e
      rw [if_pos rfl]
      split <;> omega
    · rw [if_neg e, if_neg (fun h => e h.2)]; exact h1
  · rw [kgE, hdE]
    have h1 := h.eq k hk
    by_cases e : k = r
    · subst e
      rw [if_pos rfl, if_pos ⟨rfl, rfl⟩]
      omega
    · rw [if_neg e, if_neg (fun h => e h.2)]; exact h1
/-- One has heard from another. -/
theorem inv_meet {n : Nat} {ms : List MV} {did : List Int} {kn kn' : List (List Int)} (h : Inv n ms did kn) (h6 : n ≤ 6) {r b : Nat} (hr : r < n) (hb : b < n) {M : List (List Int)} (hs : Sq M) (hM : ∀ i j, i < 6 → j < 6 → mg M i j = if i = r then mxI (mxI (mg (mat ms r) i j) (mg (mat ms b) i j)) (mg (mat ms b) b j) else mxI (mg (mat ms r) i j) (mg (mat ms b) i j))
    (hkl : kn'.length = n) (hkr : ∀ i, i < n → (kn'.getD i []).length = n) (hkg : ∀ i k, i < n → k < n → kg kn' i k = if i = r then mxI (kg kn r k) (kg kn b k) else kg kn i k) :
    Inv n (ms.set r ((n : Int), (r : Int), M, ())) did kn' ∧ ∀ i a k, i < n → a < 6 → k < 6 → mg (mat (ms.set r ((n : Int), (r : Int), M, ())) i) a k = if i = r then (if a = r then mxI (mxI (mg (mat ms r) a k) (mg (mat ms b) a k)) (mg (mat ms b) b k) else mxI (mg (mat ms r) a k) (mg (mat ms b) a k)) else mg (mat ms i) a k := by
  have hlm := h.lm
  have hmm : ∀ i, mat (ms.set r ((n : Int), (r : Int), M, ())) i = if i = r then M else mat ms i := fun i => mat_set (by omega) i
  have mgE : ∀ i a k, i < n → a < 6 → k < 6 → mg (mat (ms.set r ((n : Int), (r : Int), M, ())) i) a k = if i = r then (if a = r then mxI (mxI (mg (mat ms r) a k) (mg (mat ms b) a k)) (mg (mat ms b) b k) else mxI (mg (mat ms r) a k) (mg (mat ms b) a k)) else mg (mat ms i) a k := by
    intro i a k hi ha hk
    rw [hmm]
    by_cases e : i = r
    · rw [if_pos e, if_pos e]; exact hM a k ha hk
    · rw [if_neg e, if_neg e]
  have ownE : ∀ k, k < n → mxI (mxI (mg (mat ms r) r k) (mg (mat ms b) r k)) (mg (mat ms b) b k) = mxI (kg kn r k) (kg kn b k) := by
    intro k hk
    have h1 := h.own r k hr hk
    have h2 := h.own b k hb hk
    have h3 := h.le1 b r k hb hr hk
    have c1 := mxI_cases (mg (mat ms r) r k) (mg (mat ms b) r k)
    have c2 := mxI_cases (mxI (mg (mat ms r) r k) (mg (mat ms b) r k)) (mg (mat ms b) b k)
    have c3 := mxI_cases (kg kn r k) (kg kn b k)
    omega
  refine ⟨⟨by simpa using hlm, h.ld, hkl, hkr, fun i hi => ?_, fun i hi => ?_, fun i a k hi ha hk => ?_, fun i a k hi ha hk hp => ?_, fun i k hi hk => ?_, fun i a k hi ha hk => ?_, fun i a k hi ha hk => ?_, fun i k hi hk' => ?_, fun k hk' => ?_⟩, mgE⟩
  · rw [hmm, getD_setD (by omega)]
    by_cases e : i = r
    · rw [if_pos e, if_pos e, e]
    · rw [if_neg e, if_neg e]; exact h.at_ i hi
  · rw [hmm]
    by_cases e : i = r
    · rw [if_pos e]; exact hs
    · rw [if_neg e]; exact h.sq i hi
  · rw [mgE i a k hi ha hk]
    have a1 := h.cell i a k hi ha hk
    have a2 := h.cell r a k hr ha hk
    have a3 := h.cell b a k hb ha hk
    have a4 := h.cell b b k hb (by omega) hk
    have c1 := mxI_cases (mg (mat ms r) a k) (mg (mat ms b) a k)
    have c2 := mxI_cases (mxI (mg (mat ms r) a k) (mg (mat ms b) a k)) (mg (mat ms b) b k)
    split
    · split <;> omega
    · omega
  · rw [mgE i a k hi ha hk] at hp
    have a1 := h.out i a k hi ha hk
    have a2 := h.out r a k hr ha hk
    have a3 := h.out b a k hb ha hk
    have a4 := h.out b b k hb (by omega) hk
    have c1 := mxI_cases (mg (mat ms r) a k) (mg (mat ms b) a k)
    have c2 := mxI_cases (mxI (mg (mat ms r) a k) (mg (mat ms b) a k)) (mg (mat ms b) b k)
    split at hp
    · split at hp <;> omega
    · exact a1 hp
  · rw [mgE i i k hi (by omega) (by omega), hkg i k hi hk]
    by_cases e : i = r
    · rw [if_pos e, if_pos e, if_pos e, e]; exact ownE k hk
    · rw [if_neg e, if_neg e]; exact h.own i k hi hk
  · rw [mgE i a k hi (by omega) (by omega), mgE i i k hi (by omega) (by omega)]
    by_cases e : i = r
    · rw [if_pos e, if_pos e, if_pos e, e]
      have a1 := h.le1 r a k hr ha hk
      have a2 := h.le1 b a k hb ha hk
      have c0 := mxI_cases (mg (mat ms r) a k) (mg (mat ms b) a k)
      have c1 := mxI_cases (mg (mat ms r) r k) (mg (mat ms b) r k)
      have c2 := mxI_cases (mxI (mg (mat ms r) r k) (mg (mat ms b) r k)) (mg (mat ms b) b k)
      split
      · rename_i e2; rw [e2]; exact Int.le_refl _
      · omega
    · rw [if_neg e, if_neg e]; exact h.le1 i a k hi ha hk
  · rw [mgE i a k hi (by omega) (by omega), hkg a k ha hk]
    have a0 := h.le2 i a k hi ha hk
    have a1 := h.le2 r a k hr ha hk
    have a2 := h.le2 b a k hb ha hk
    have c0 := mxI_cases (mg (mat ms r) a k) (mg (mat ms b) a k)
    have c3 := mxI_cases (kg kn r k) (kg kn b k)
    by_cases e2 : a = r
    · rw [if_pos e2, if_pos e2]
      subst e2
      rw [ownE k hk]
      split <;> omega
    · rw [if_neg e2, if_neg e2]
      split <;> omega
  · rw [hkg i k hi hk']
    have a1 := h.le3 i k hi hk'
    have a2 := h.le3 r k hr hk'
    have a3 := h.le3 b k hb hk'
    have c3 := mxI_cases (kg kn r k) (kg kn b k)
    split <;> omega
  · rw [hkg k k hk' hk']
    have a1 := h.eq k hk'
    have a3 := h.le3 b k hb hk'
    have c3 := mxI_cases (kg kn r k) (kg kn b k)
    split
    · rename_i e; subst e; omega
    · exact a1
theorem hear_L4 {n r b : Nat} {kn : List (List Int)} (h6 : n ≤ 6) (hr : r < n) (hb : b < n) (hne : r ≠ b) (hl : kn.length = n) (hrk : ∀ i, i < n → (kn.getD i []).length = n) :
    ∃ kn', loopO (fun x : List (List Int) × Int => knowing_L4 (n : Int) (r : Int) (b : Int) x.1 x.2) (kn, (0 : Int)) = some kn' ∧ kn'.length = n ∧ (∀ i, i < n → (kn'.getD i []).length = n) ∧ ∀ i k, i < n → k < n → kg kn' i k = if i = r then mxI (kg kn r k) (kg kn b k) else kg kn i k := by
  refine loop_count (fun j x => x.2 = (j : Int) ∧ x.1.length = n ∧ (∀ i, i < n → (x.1.getD i []).length = n) ∧ ∀ i k, i < n → k < n → kg x.1 i k = if i = r ∧ k < j then mxI (kg kn r k) (kg kn b k) else kg kn i k) n _ ⟨rfl, hl, hrk, fun i k _ _ => by simp⟩ ?_ ?_
  · rintro j ⟨K, jj⟩ hj ⟨e1, e2, e3, e4⟩
    dsimp only at e1 e2 e3 e4
    subst e1
    have r1 := e3 r hr
    have r2 := e3 b hb
    unfold knowing_L4
    dsimp only
    simp only [Int.toNat_natCast]
    rw [if_true' (dec_t (by omega)), ck_in (by omega), ck_in (by omega), ck_in (by omega), ck_in (by omega), ck_in (by omega), ck_in (by omega), letO_def, inc64 (by omega)]
    refine ⟨_, rfl, rfl, by simpa using e2, fun i hi => ?_, fun i k hi hk => ?_⟩
    · dsimp only
      rw [getD_setD (by omega)]
      by_cases e : i = r
      · rw [if_pos e]; simpa using r1
      · rw [if_neg e]; exact e3 i hi
    · dsimp only
      rw [kg_set (by omega) (by omega)]
      have g1 := e4 r k hr hk
      have g2 := e4 b k hb hk
      rw [if_neg (fun h => hne h.1.symm)] at g2
      by_cases e : i = r ∧ k = j
      · obtain ⟨rfl, rfl⟩ := e
        rw [if_neg (fun h => by omega)] at g1
        rw [if_pos ⟨rfl, rfl⟩, if_pos ⟨rfl, by omega⟩, ← g1, ← g2]
        rfl
      · rw [if_neg e, e4 i k hi hk]
        by_cases e5 : i = r ∧ k < j
        · rw [if_pos e5, if_pos ⟨e5.1, by omega⟩]
        · rw [if_neg e5, if_neg (fun h => by omega)]
  · rintro ⟨K, jj⟩ ⟨e1, e2, e3, e4⟩
    dsimp only at e1 e2 e3 e4
    subst e1
    unfold knowing_L4
    dsimp only
    rw [if_false' (dec_f (by omega))]
    refine ⟨_, rfl, e2, e3, fun i k hi hk => ?_⟩
    rw [e4 i k hi hk]
    by_cases e : i = r
    · rw [if_pos e, if_pos ⟨e, hk⟩]
    · rw [if_neg e, if_neg (fun h => e h.1)]
def stp (n : Nat) (e : MoveV) (ms ms' : List MV) : Prop :=
  (e.1 = 0 → mg (mat ms (e.2.1 % n).toNat) (e.2.1 % n).toNat (e.2.1 % n).toNat ≠ 16777215 → ∀ i a k, i < n → a < 6 → k < 6 → mg (mat ms' i) a k = if i = (e.2.1 % n).toNat ∧ a = (e.2.1 % n).toNat ∧ k = (e.2.1 % n).toNat then mg (mat ms (e.2.1 % n).toNat) (e.2.1 % n).toNat (e.2.1 % n).toNat + 1 else mg (mat ms i) a k) ∧
  (e.1 ≠ 0 → (e.2.1 % n).toNat ≠ (e.2.2.1 % n).toNat → ∀ i a k, i < n → a < 6 → k < 6 → mg (mat ms' i) a k = if i = (e.2.1 % n).toNat then (if a = (e.2.1 % n).toNat then mxI (mxI (mg (mat ms (e.2.1 % n).toNat) a k) (mg (mat ms (e.2.2.1 % n).toNat) a k)) (mg (mat ms (e.2.2.1 % n).toNat) (e.2.2.1 % n).toNat k) else mxI (mg (mat ms (e.2.1 % n).toNat) a k) (mg (mat ms (e.2.2.1 % n).toNat) a k)) else mg (mat ms i) a k)
theorem step_ok {n : Nat} (h1 : 1 ≤ n) (h6 : n ≤ 6) {t1 : List MoveV} {ms : List MV} {did : List Int} {kn : List (List Int)} (h : Inv n ms did kn) {k : Nat} (hk : k < t1.length) (hl : t1.length ≤ 4294967296) :
    ∃ ms' did' kn', knowing_L2 (n : Int) t1 (t1.length : Int) ms did kn (k : Int) = some (.inl (ms', did', kn', ((k + 1 : Nat) : Int))) ∧ Inv n ms' did' kn' ∧ stp n (t1.getD k ((0 : Int), (0 : Int), (0 : Int), ())) ms ms' := by
  generalize he : t1.getD k ((0 : Int), (0 : Int), (0 : Int), ()) = e
  obtain ⟨r, hr⟩ : ∃ r : Nat, (e.2.1 % (n : Int)).toNat = r := ⟨_, rfl⟩
  obtain ⟨b, hb⟩ : ∃ b : Nat, (e.2.2.1 % (n : Int)).toNat = b := ⟨_, rfl⟩
  have er : e.2.1 % (n : Int) = (r : Int) := by have := Int.emod_nonneg e.2.1 (show (n : Int) ≠ 0 by omega); omega
  have eb : e.2.2.1 % (n : Int) = (b : Int) := by have := Int.emod_nonneg e.2.2.1 (show (n : Int) ≠ 0 by omega); omega
  have hrn : r < n := by have := Int.emod_lt_of_pos e.2.1 (show (0 : Int) < n by omega); omega
  have hbn : b < n := by have := Int.emod_lt_of_pos e.2.2.1 (show (0 : Int) < n by omega); omega
  unfold stp
  rw [hr, hb]
  have hlm := h.lm
  have hld := h.ld
  have hlk := h.lk
  have hrk := h.rk r hrn
  unfold knowing_L2
  rw [if_true' (dec_t (by omega)), ck_in (by omega), letO_def, Int.toNat_natCast, he, bind_of (rest_eq _ _ (by omega) (by omega)), bind_of (rest_eq _ _ (by omega) (by omega)), er, eb]
  simp only [knowing_J3, inc64 (show k < 1000000000000 by omega)]
  obtain ⟨o1, s1⟩ := h.ok h1 h6 hrn
  obtain ⟨o2, s2⟩ := h.ok h1 h6 hbn
  by_cases h0 : e.1 = 0
  · rw [if_true' (by simpa using h0), ck_in (by omega)]
    simp only [Int.toNat_natCast]
    obtain ⟨d1, d2⟩ := did_ok o1
    rw [h.at_ r hrn] at d1 d2
    dsimp only at d1 d2
    rw [Int.toNat_natCast] at d1 d2
    rw [h.at_ r hrn]
    by_cases hf : mg (mat ms r) r r = 16777215
    · obtain ⟨z, hz⟩ := d1 hf
      rw [bind_of hz, if_true' (by rfl)]
      exact ⟨ms, did, kn, rfl, h, fun _ hn => absurd hf hn, fun hn => absurd h0 hn⟩
    · have hc := h.cell r r r hrn (by omega) (by omega)
      have ho := h.own r r hrn hrn
      have hq := h.eq r hrn
      rw [bind_of (d2 hf), if_false' (by rfl), if_false' (by rfl), ck_in (by omega), letO_def, ck_in (by omega), ck_in (by omega), letO_def, ck_in (by omega), ck_in (by omega), ck_in (by omega)]
      have e1 : arR .add .i64 (did.getD r 0) 1 = did.getD r 0 + 1 := add64 (by omega) (by omega)
      have e2 : arR .add .i64 ((kn.getD r []).getD r 0) 1 = kg kn r r + 1 := by
        show arR .add .i64 (kg kn r r) 1 = kg kn r r + 1
        exact add64 (by omega) (by omega)
      rw [e1, e2]
      obtain ⟨g1, g2⟩ := inv_did h h6 hrn (v := mg (mat ms r) r r) (M := (mat ms r).set r (((mat ms r).getD r (List.replicate 6 (0 : Int))).set r (mg (mat ms r) r r + 1))) rfl rfl (by omega) (d := did.getD r 0 + 1) (u := kg kn r r + 1) rfl rfl
      exact ⟨_, _, _, rfl, g1, fun _ _ => g2, fun hn => absurd h0 hn⟩
  · rw [if_false' (by simpa using h0)]
    by_cases hne : r = b
    · rw [if_false' (by simp [hne])]
      exact ⟨_, _, _, rfl, h, fun hn => absurd hn h0, fun _ hn => absurd hne hn⟩
    · rw [if_true' (by rw [bne_iff_ne]; omega), ck_in (by omega), ck_in (by omega)]
      simp only [Int.toNat_natCast]
      obtain ⟨M, m1, m2, m3⟩ := meet_ok o1 o2 s1 s2 (by rw [h.at_ r hrn, h.at_ b hbn]) (by rw [h.at_ r hrn, h.at_ b hbn]; dsimp only; omega)
      rw [h.at_ r hrn, h.at_ b hbn] at m1 m3
      dsimp only at m1 m3
      simp only [Int.toNat_natCast] at m3
      obtain ⟨kn', k1, k2, k3, k4⟩ := hear_L4 h6 hrn hbn hne hlk h.rk
      rw [h.at_ r hrn, h.at_ b hbn, bind_of m1, if_false' (by rfl), ck_in (by omega), letO_def, bind_of k1]
      obtain ⟨g1, g2⟩ := inv_meet h h6 hrn hbn m2 m3 k2 k3 k4
      exact ⟨_, _, _, rfl, g1, fun hn => absurd hn h0, fun _ _ => g2⟩
end Go.Proofs.Ytikbileeohddjaa.Mt
