/- Matrices: the closed facts of Max, Min, Check, New, Did, Firm, Meet. -/
import Derived.Test.YtikbileeohddjaaPure1
import Derived.Test.YtikbileeohddjaaMtDefs
open Go Go.Proofs.Ytikbileeohddjaa.Sy Go.Proofs.Ytikbileeohddjaa.Pu
set_option linter.unusedVariables false
set_option linter.unusedSimpArgs false
namespace Go.Proofs.Ytikbileeohddjaa.Mt
abbrev MV := Int × Int × List (List Int) × Unit
def mg (M : List (List Int)) (i j : Nat) : Int := (M.getD i (List.replicate 6 (0 : Int))).getD j 0
structure Sq (M : List (List Int)) : Prop where
  len : M.length = 6
  row : ∀ i, i < 6 → (M.getD i (List.replicate 6 (0 : Int))).length = 6
theorem mg_set {M : List (List Int)} {i : Nat} {r : List Int} (h : i < M.length) (x j : Nat) : mg (M.set i r) x j = if x = i then r.getD j 0 else mg M x j := by
  unfold mg
  rw [getD_setD h]
  split <;> rfl
theorem sq_set {M : List (List Int)} (h : Sq M) {i : Nat} {r : List Int} (hi : i < 6) (hr : r.length = 6) : Sq (M.set i r) := by
  refine ⟨by simpa using h.len, fun x hx => ?_⟩
  rw [getD_setD (by rw [h.len]; exact hi)]
  split
  · exact hr
  · exact h.row x hx
theorem max_ok (a b : List Int) (ha : a.length = 6) : ∃ c, vect_Max a b = some c ∧ c.length = 6 ∧ ∀ j, j < 6 → c.getD j 0 = mxI (a.getD j 0) (b.getD j 0) := by
  obtain ⟨c, h1, h2⟩ := loop_count (B := fun x : List Int × Int => vect_Max_L1 b x.1 x.2) (fun k x => x.2 = (k : Int) ∧ x.1.length = 6 ∧ ∀ j, j < 6 → x.1.getD j 0 = if j < k then mxI (a.getD j 0) (b.getD j 0) else a.getD j 0) 6 (fun c => c.length = 6 ∧ ∀ j, j < 6 → c.getD j 0 = mxI (a.getD j 0) (b.getD j 0)) (x := (a, (0 : Int))) ⟨rfl, ha, fun j hj => by simp⟩ (by
    rintro k ⟨c, kk⟩ hk ⟨e1, e2, e3⟩
    dsimp only at e1 e2 e3
    subst e1
    unfold vect_Max_L1
    dsimp only
    rw [if_true' (dec_t (by omega)), ck_in (by omega), ck_in (by omega), ck_in (by omega), letO_def, inc64 (by omega)]
    refine ⟨_, rfl, rfl, by simpa using e2, fun j hj => ?_⟩
    dsimp only
    simp only [Int.toNat_natCast]
    rw [getD_setD (by omega), e3 k (by omega), if_neg (Nat.lt_irrefl _)]
    by_cases e : j = k
    · subst e; rw [if_pos rfl, if_pos (by omega)]
    · rw [if_neg e, e3 j hj]
      by_cases h : j < k
      · rw [if_pos h, if_pos (by omega)]
      · rw [if_neg h, if_neg (by omega)]) (by
    rintro ⟨c, kk⟩ ⟨e1, e2, e3⟩
    dsimp only at e1 e2 e3
    subst e1
    unfold vect_Max_L1
    dsimp only
    rw [if_false' (dec_f (by omega))]
    exact ⟨_, rfl, e2, fun j hj => by rw [e3 j hj, if_pos hj]⟩)
  refine ⟨c, ?_, h2.1, h2.2⟩
  unfold vect_Max
  rw [letO_def, bind_of h1]
theorem min_ok (a b : List Int) (ha : a.length = 6) : ∃ c, vect_Min a b = some c ∧ c.length = 6 ∧ ∀ j, j < 6 → c.getD j 0 = mnI (a.getD j 0) (b.getD j 0) := by
  obtain ⟨c, h1, h2⟩ := loop_count (B := fun x : List Int × Int => vect_Min_L1 b x.1 x.2) (fun k x => x.2 = (k : Int) ∧ x.1.length = 6 ∧ ∀ j, j < 6 → x.1.getD j 0 = if j < k then mnI (a.getD j 0) (b.getD j 0) else a.getD j 0) 6 (fun c => c.length = 6 ∧ ∀ j, j < 6 → c.getD j 0 = mnI (a.getD j 0) (b.getD j 0)) (x := (a, (0 : Int))) ⟨rfl, ha, fun j hj => by simp⟩ (by
    rintro k ⟨c, kk⟩ hk ⟨e1, e2, e3⟩
    dsimp only at e1 e2 e3
    subst e1
    unfold vect_Min_L1
    dsimp only
    rw [if_true' (dec_t (by omega)), ck_in (by omega), ck_in (by omega), ck_in (by omega), letO_def, inc64 (by omega)]
    refine ⟨_, rfl, rfl, by simpa using e2, fun j hj => ?_⟩
    dsimp only
    simp only [Int.toNat_natCast]
    rw [getD_setD (by omega), e3 k (by omega), if_neg (Nat.lt_irrefl _)]
    by_cases e : j = k
    · subst e; rw [if_pos rfl, if_pos (by omega)]
    · rw [if_neg e, e3 j hj]
      by_cases h : j < k
      · rw [if_pos h, if_pos (by omega)]
      · rw [if_neg h, if_neg (by omega)]) (by
    rintro ⟨c, kk⟩ ⟨e1, e2, e3⟩
    dsimp only at e1 e2 e3
    subst e1
    unfold vect_Min_L1
    dsimp only
    rw [if_false' (dec_f (by omega))]
    exact ⟨_, rfl, e2, fun j hj => by rw [e3 j hj, if_pos hj]⟩)
  refine ⟨c, ?_, h2.1, h2.2⟩
  unfold vect_Min
  rw [letO_def, bind_of h1]

structure Ok (m : MV) : Prop where
  n1 : 1 ≤ m.1
  n6 : m.1 ≤ 6
  me0 : 0 ≤ m.2.1
  men : m.2.1 < m.1
  cell : ∀ i j, i < 6 → j < 6 → 0 ≤ mg m.2.2.1 i j ∧ mg m.2.2.1 i j ≤ 16777215
  out : ∀ i j, i < 6 → j < 6 → 0 < mg m.2.2.1 i j → (i : Int) < m.1 ∧ (j : Int) < m.1
  own : ∀ i j, i < 6 → j < 6 → mg m.2.2.1 i j ≤ mg m.2.2.1 m.2.1.toNat j
theorem check_ok {m : MV} (h : Ok m) : mat_Check m = some 0 := by
  have hn1 := h.n1
  have hn6 := h.n6
  have hm0 := h.me0
  have hmn := h.men
  have hL1 : loopO (fun x : Int => mat_Check_L1 m x) (0 : Int) = some (.inl ()) := by
    refine loop_from (fun k => (k : Int)) 6 rfl (fun i hi => ?_) ?_
    · unfold mat_Check_L1
      rw [if_true' (dec_t (by omega)), ck_in (by omega), letO_def]
      refine (bindE_inl (y := ()) (loop_from (fun k => (k : Int)) 6 rfl (fun j hj => ?_) ?_)).trans (by rw [inc64 (by omega)])
      · have c := h.cell i j hi hj
        have o := h.own i j hi hj
        have u := h.out i j hi hj
        unfold mg at c o u
        unfold mat_Check_L2
        rw [if_true' (dec_t (by omega)), ck_in (by omega), letO_def]
        simp only [Int.toNat_natCast]
        rw [if_false' (by rw [Bool.or_eq_false_iff]; exact ⟨dec_f (by omega), dec_f (by omega)⟩), ck_in (fun _ => by omega), ck_in (fun _ => by omega), if_false' ?_, inc64 (by omega)]
        rw [Bool.or_eq_false_iff, Bool.and_eq_false_iff, Bool.or_eq_false_iff]
        refine ⟨?_, dec_f (by omega)⟩
        by_cases hp : 0 < (m.2.2.1.getD i (List.replicate 6 (0 : Int))).getD j 0
        · have := u hp
          exact .inr ⟨dec_f (by omega), dec_f (by omega)⟩
        · exact .inl (dec_f (by omega))
      · unfold mat_Check_L2
        rw [if_false' (dec_f (by omega))]
    · unfold mat_Check_L1
      rw [if_false' (dec_f (by omega))]
  unfold mat_Check
  rw [if_false' ?_, bindE_inl hL1]
  simp only [Bool.or_eq_false_iff]
  exact ⟨⟨⟨dec_f (by omega), dec_f (by omega)⟩, dec_f (by omega)⟩, dec_f (by omega)⟩
theorem mg_zero (i j : Nat) : mg (List.replicate 6 (List.replicate 6 (0 : Int))) i j = 0 := by
  unfold mg
  rw [getD_rep, getD_rep]
theorem sq_zero : Sq (List.replicate 6 (List.replicate 6 (0 : Int))) := ⟨by simp, fun i _ => by rw [getD_rep]; simp⟩
theorem new_ok {n i : Nat} (h1 : 1 ≤ n) (h6 : n ≤ 6) (hi : i < n) : mat_New n i = some (((n : Int), (i : Int), List.replicate 6 (List.replicate 6 (0 : Int)), ()), 0) := by
  unfold mat_New
  rw [letO_def, letO_def, bind_of (check_ok (m := ((n : Int), (i : Int), List.replicate 6 (List.replicate 6 (0 : Int)), ())) ⟨by dsimp only; omega, by dsimp only; omega, by dsimp only; omega, by dsimp only; omega, fun a b _ _ => by dsimp only; rw [mg_zero]; omega, fun a b _ _ h => by dsimp only at h; rw [mg_zero] at h; omega, fun a b _ _ => by dsimp only; rw [mg_zero, mg_zero]; omega⟩)]
  rw [if_false' (by rfl)]
theorem firm_ok {m : MV} (h : Ok m) (hs : Sq m.2.2.1) : ∃ f, mat_Firm m = some (f, 0) ∧ f.length = 6 ∧ ∀ a k, a < m.1.toNat → k < 6 → f.getD k 0 ≤ mg m.2.2.1 a k := by
  have hn1 := h.n1
  have hn6 := h.n6
  have hm0 := h.me0
  have hmn := h.men
  obtain ⟨f, f1, f2⟩ := loop_count (B := fun x : List Int × Int => mat_Firm_L1 m x.1 x.2) (fun k x => x.2 = (k : Int) ∧ x.1.length = 6 ∧ ∀ a j, a < k → j < 6 → x.1.getD j 0 ≤ mg m.2.2.1 a j) m.1.toNat (fun f => f.length = 6 ∧ ∀ a j, a < m.1.toNat → j < 6 → f.getD j 0 ≤ mg m.2.2.1 a j) (x := (m.2.2.1.getD m.2.1.toNat (List.replicate 6 (0 : Int)), (0 : Int))) ⟨rfl, hs.row _ (by omega), fun a j ha => by omega⟩ (by
    rintro k ⟨c, kk⟩ hk ⟨e1, e2, e3⟩
    dsimp only at e1 e2 e3
    subst e1
    obtain ⟨d, d1, d2, d3⟩ := min_ok c (m.2.2.1.getD k (List.replicate 6 (0 : Int))) e2
    unfold mat_Firm_L1
    dsimp only
    rw [if_true' (dec_t (by omega)), ck_in (by omega), Int.toNat_natCast, bind_of d1, inc64 (by omega)]
    refine ⟨_, rfl, rfl, d2, fun a j ha hj => ?_⟩
    dsimp only
    rw [d3 j hj]
    have hc := mnI_cases (c.getD j 0) ((m.2.2.1.getD k (List.replicate 6 (0 : Int))).getD j 0)
    by_cases e : a = k
    · subst e; exact hc.1.2
    · have := e3 a j (by omega) hj; omega) (by
    rintro ⟨c, kk⟩ ⟨e1, e2, e3⟩
    dsimp only at e1 e2 e3
    subst e1
    unfold mat_Firm_L1
    dsimp only
    rw [if_false' (dec_f (by omega))]
    exact ⟨_, rfl, e2, e3⟩)
  refine ⟨f, ?_, f2.1, f2.2⟩
  unfold mat_Firm
  rw [letO_def, bind_of (check_ok h), if_false' (by rfl), ck_in (by omega), letO_def, bind_of f1]
theorem did_ok {m : MV} (h : Ok m) : (mg m.2.2.1 m.2.1.toNat m.2.1.toNat = 16777215 → ∃ z, mat_Did m = some (z, 8)) ∧ (mg m.2.2.1 m.2.1.toNat m.2.1.toNat ≠ 16777215 → mat_Did m = some ((m.1, m.2.1, m.2.2.1.set m.2.1.toNat ((m.2.2.1.getD m.2.1.toNat (List.replicate 6 (0 : Int))).set m.2.1.toNat (mg m.2.2.1 m.2.1.toNat m.2.1.toNat + 1)), ()), 0)) := by
  have hn1 := h.n1
  have hn6 := h.n6
  have hm0 := h.me0
  have hmn := h.men
  have hc := h.cell m.2.1.toNat m.2.1.toNat (by omega) (by omega)
  unfold mg at *
  unfold mat_Did
  rw [letO_def, bind_of (check_ok h), if_false' (by rfl), ck_in (by omega), ck_in (by omega)]
  refine ⟨fun e => ?_, fun e => ?_⟩
  · rw [if_true' (by simpa using e)]
    exact ⟨_, rfl⟩
  · rw [if_false' (by simpa using e), ck_in (by omega), ck_in (by omega), ck_in (by omega), ck_in (by omega), letO_def, add64 (by omega) (by omega)]
theorem meet_ok {a b : MV} (ha : Ok a) (hb : Ok b) (sa : Sq a.2.2.1) (sb : Sq b.2.2.1) (hn : b.1 = a.1) (hm : b.2.1 ≠ a.2.1) : ∃ M', mat_Meet a b = some ((a.1, a.2.1, M', ()), 0) ∧ Sq M' ∧ ∀ i j, i < 6 → j < 6 → mg M' i j = if i = a.2.1.toNat then mxI (mxI (mg a.2.2.1 i j) (mg b.2.2.1 i j)) (mg b.2.2.1 b.2.1.toNat j) else mxI (mg a.2.2.1 i j) (mg b.2.2.1 i j) := by
  have hn1 := ha.n1
  have hn6 := ha.n6
  have hm0 := ha.me0
  have hmn := ha.men
  have gm0 := hb.me0
  have gmn := hb.men
  obtain ⟨M1, f1, f2, f3⟩ := loop_count (B := fun x : List (List Int) × Int => mat_Meet_L1 b x.1 x.2) (fun k x => x.2 = (k : Int) ∧ Sq x.1 ∧ ∀ i j, i < 6 → j < 6 → mg x.1 i j = if i < k then mxI (mg a.2.2.1 i j) (mg b.2.2.1 i j) else mg a.2.2.1 i j) 6 (fun M => Sq M ∧ ∀ i j, i < 6 → j < 6 → mg M i j = mxI (mg a.2.2.1 i j) (mg b.2.2.1 i j)) (x := (a.2.2.1, (0 : Int))) ⟨rfl, sa, fun i j _ _ => by simp⟩ (by
    rintro k ⟨M, kk⟩ hk ⟨e1, e2, e3⟩
    dsimp only at e1 e2 e3
    subst e1
    obtain ⟨d, d1, d2, d3⟩ := max_ok (M.getD k (List.replicate 6 (0 : Int))) (b.2.2.1.getD k (List.replicate 6 (0 : Int))) (e2.row k hk)
    unfold mat_Meet_L1
    dsimp only
    rw [if_true' (dec_t (by omega)), ck_in (by omega), ck_in (by omega), Int.toNat_natCast, bind_of d1, ck_in (by omega), letO_def, inc64 (by omega)]
    refine ⟨_, rfl, rfl, sq_set e2 hk d2, fun i j hi hj => ?_⟩
    dsimp only
    rw [mg_set (by rw [e2.len]; exact hk)]
    by_cases e : i = k
    · subst e
      rw [if_pos rfl, if_pos (by omega), d3 j hj]
      have := e3 i j hi hj
      rw [if_neg (by omega)] at this
      rw [← this]
      rfl
    · rw [if_neg e, e3 i j hi hj]
      by_cases h : i < k
      · rw [if_pos h, if_pos (by omega)]
      · rw [if_neg h, if_neg (by omega)]) (by
    rintro ⟨M, kk⟩ ⟨e1, e2, e3⟩
    dsimp only at e1 e2 e3
    subst e1
    unfold mat_Meet_L1
    dsimp only
    rw [if_false' (dec_f (by omega))]
    exact ⟨_, rfl, e2, fun i j hi hj => by rw [e3 i j hi hj, if_pos hi]⟩)
  obtain ⟨d, d1, d2, d3⟩ := max_ok (M1.getD a.2.1.toNat (List.replicate 6 (0 : Int))) (b.2.2.1.getD b.2.1.toNat (List.replicate 6 (0 : Int))) (f2.row _ (by omega))
  refine ⟨M1.set a.2.1.toNat d, ?_, sq_set f2 (by omega) d2, fun i j hi hj => ?_⟩
  · unfold mat_Meet
    rw [letO_def, bind_of (check_ok ha), if_false' (by rfl), bind_of (check_ok hb), if_false' (by rfl), if_false' ?_, bind_of f1, ck_in (by omega), ck_in (by omega), bind_of d1, ck_in (by omega), letO_def]
    rw [Bool.or_eq_false_iff]
    exact ⟨by simpa using hn, by simpa using hm⟩
  · rw [mg_set (by rw [f2.len]; omega)]
    by_cases e : i = a.2.1.toNat
    · rw [if_pos e, if_pos e, d3 j hj]
      have := f3 i j hi hj
      rw [← this, e]
      rfl
    · rw [if_neg e, if_neg e, f3 i j hi hj]
end Go.Proofs.Ytikbileeohddjaa.Mt
