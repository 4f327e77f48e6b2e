/- Orders: what is ahead of what, by one pair or several. -/
import Derived.Test.YtaachifkgcdeoaaLatD
open Go Go.Proofs.Ytaachifkgcdeoaa.Sy Go.Proofs.Ytaachifkgcdeoaa.Pu
set_option linter.unusedVariables false
set_option linter.unusedSimpArgs false
namespace Go.Proofs.Ytaachifkgcdeoaa.Lt
abbrev PR := Int × Int × Unit
abbrev r20 : List Bool := List.replicate 20 false
def te (T : List (List Bool)) (i j : Nat) : Bool := (T.getD i r20).getD j false
structure Tb (T : List (List Bool)) : Prop where
  len : T.length = 20
  ln : ∀ i, i < 20 → (T.getD i r20).length = 20
theorem te_set {T : List (List Bool)} (h : Tb T) {i j : Nat} (hi : i < 20) (hj : j < 20) (v : Bool) (a b : Nat) : te (T.set i ((T.getD i r20).set j v)) a b = if a = i ∧ b = j then v else te T a b := by
  have hl := h.len
  have hr := h.ln i hi
  unfold te
  rw [getD_setD (by omega)]
  by_cases e : a = i
  · subst e
    rw [if_pos rfl, getD_setD (by omega)]
    by_cases e2 : b = j
    · rw [if_pos e2, if_pos ⟨rfl, e2⟩]
    · rw [if_neg e2, if_neg (fun x => e2 x.2)]
  · rw [if_neg e, if_neg (fun x => e x.1)]
theorem tb_set {T : List (List Bool)} (h : Tb T) {i j : Nat} (hi : i < 20) (v : Bool) : Tb (T.set i ((T.getD i r20).set j v)) := by
  have hl := h.len
  refine ⟨by rw [List.length_set]; exact hl, fun a ha => ?_⟩
  rw [getD_setD (by omega)]
  by_cases e : a = i
  · rw [if_pos e, List.length_set]; exact h.ln i hi
  · rw [if_neg e]; exact h.ln a ha
def pr0 (ps : List PR) (a b : Nat) : Bool := ps.any fun x => x.1 == (a : Int) && x.2.1 == (b : Int)
def W (ps : List PR) : Nat → Nat → Nat → Bool
  | 0 => pr0 ps
  | k + 1 => fun a b => W ps k a b || (W ps k a k && W ps k k b)
theorem W_succ (ps : List PR) (k a b : Nat) : W ps (k + 1) a b = (W ps k a b || (W ps k a k && W ps k k b)) := rfl
theorem W_colk (ps : List PR) (k a : Nat) : W ps (k + 1) a k = W ps k a k := by rw [W_succ]; cases W ps k a k <;> simp
theorem W_rowk (ps : List PR) (k b : Nat) : W ps (k + 1) k b = W ps k k b := by rw [W_succ]; cases W ps k k b <;> simp
theorem W_up {ps : List PR} {a b : Nat} : ∀ {k : Nat}, pr0 ps a b = true → W ps k a b = true
  | 0, h => h
  | k + 1, h => by rw [W_succ, W_up h]; rfl
theorem W_min {ps : List PR} {R : Nat → Nat → Prop} (h0 : ∀ a b, pr0 ps a b = true → R a b) (ht : ∀ a b c, R a b → R b c → R a c) : ∀ k a b, W ps k a b = true → R a b
  | 0, a, b, h => h0 a b h
  | k + 1, a, b, h => by
    rw [W_succ, Bool.or_eq_true, Bool.and_eq_true] at h
    rcases h with h | ⟨h1, h2⟩
    · exact W_min h0 ht k a b h
    · exact ht _ _ _ (W_min h0 ht k a k h1) (W_min h0 ht k k b h2)
theorem W_trans {ps : List PR} : ∀ (k m a b : Nat), m < k → W ps k a m = true → W ps k m b = true → W ps k a b = true
  | k + 1, m, a, b, hm, h1, h2 => by
    by_cases e : m = k
    · subst e
      rw [W_colk] at h1
      rw [W_rowk] at h2
      rw [W_succ, h1, h2]
      simp
    · have ih := fun x y => W_trans (ps := ps) k m x y (by omega)
      rw [W_succ, Bool.or_eq_true, Bool.and_eq_true] at h1 h2
      rw [W_succ, Bool.or_eq_true, Bool.and_eq_true]
      rcases h1 with h1 | ⟨h1, h1'⟩ <;> rcases h2 with h2 | ⟨h2, h2'⟩
      · exact .inl (ih _ _ h1 h2)
      · exact .inr ⟨ih _ _ h1 h2, h2'⟩
      · exact .inr ⟨h1, ih _ _ h1' h2⟩
      · exact .inr ⟨h1, h2'⟩
structure Rng (n : Nat) (ps : List PR) : Prop where
  len : ps.length ≤ 600
  rng : ∀ x ∈ ps, 0 ≤ x.1 ∧ x.1 < (n : Int) ∧ 0 ≤ x.2.1 ∧ x.2.1 < (n : Int)
theorem W_dom {n : Nat} {ps : List PR} (h : Rng n ps) {k a b : Nat} (hw : W ps k a b = true) : a < n ∧ b < n := by
  refine W_min (R := fun a b => a < n ∧ b < n) (fun a b h0 => ?_) (fun a b c h1 h2 => ⟨h1.1, h2.2⟩) k a b hw
  obtain ⟨x, hx, h1⟩ := List.any_eq_true.1 h0
  rw [Bool.and_eq_true, beq_iff_eq, beq_iff_eq] at h1
  have := h.rng x hx
  exact ⟨by omega, by omega⟩
/-- The rows of a stage. -/
theorem stage {n : Nat} (hn : n ≤ 20) {p : Int × List PR × Unit} (hp : p.1 = (n : Int)) {ps : List PR} {k : Nat} (hk : k < n) {T : List (List Bool)} (hT : Tb T) (hW : ∀ a b, a < n → b < n → te T a b = W ps k a b) :
    ∃ T', loopO (fun x : List (List Bool) × Int => poset_closed_L3 p (k : Int) x.1 x.2) (T, (0 : Int)) = some T' ∧ Tb T' ∧ ∀ a b, a < n → b < n → te T' a b = W ps (k + 1) a b := by
  refine loop_count (fun i x => x.2 = (i : Int) ∧ Tb x.1 ∧ ∀ a b, a < n → b < n → te x.1 a b = if a < i then W ps (k + 1) a b else W ps k a b) n _ ⟨rfl, hT, fun a b ha hb => by rw [if_neg (by omega)]; exact hW a b ha hb⟩ ?_ ?_
  · rintro i ⟨T, ii⟩ hi ⟨e1, e2, e3⟩
    dsimp only at e1 e2 e3
    subst e1
    unfold poset_closed_L3
    dsimp only
    rw [hp, if_true' (dec_t (by omega))]
    obtain ⟨U, u1, u2, u3⟩ := loop_count (B := fun x : List (List Bool) × Int => poset_closed_L4 p (k : Int) (i : Int) x.1 x.2) (fun j x => x.2 = (j : Int) ∧ Tb x.1 ∧ ∀ a b, a < n → b < n → te x.1 a b = if a < i ∨ (a = i ∧ b < j) then W ps (k + 1) a b else W ps k a b) n (fun U => Tb U ∧ ∀ a b, a < n → b < n → te U a b = if a < i + 1 then W ps (k + 1) a b else W ps k a b) (x := (T, (0 : Int))) ⟨rfl, e2, fun a b ha hb => by
        dsimp only
        rw [e3 a b ha hb]
        by_cases e : a < i
        · rw [if_pos e, if_pos (.inl e)]
        · rw [if_neg e, if_neg (by omega)]⟩ (by
      rintro j ⟨U, jj⟩ hj ⟨f1, f2, f3⟩
      dsimp only at f1 f2 f3
      subst f1
      unfold poset_closed_L4
      dsimp only
      rw [hp, if_true' (dec_t (by omega)), ck_in (by omega), ck_in (by omega), ck_in (by intro _; omega), ck_in (by intro _; omega), ck_in (by intro _ _; omega), ck_in (by intro _ _; omega), ck_in (by omega), ck_in (by omega), letO_def, inc64 (by omega)]
      simp only [Int.toNat_natCast]
      have q1 : (U.getD i (List.replicate 20 false)).getD j false = W ps k i j := by
        have := f3 i j hi hj
        rw [if_neg (by omega)] at this
        exact this
      have q2 : (U.getD i (List.replicate 20 false)).getD k false = W ps k i k := by
        have := f3 i k hi hk
        rw [W_colk] at this
        split at this <;> exact this
      have q3 : (U.getD k (List.replicate 20 false)).getD j false = W ps k k j := by
        have := f3 k j hk hj
        rw [W_rowk] at this
        split at this <;> exact this
      rw [q1, q2, q3]
      refine ⟨_, rfl, rfl, tb_set f2 (by omega) _, fun a b ha hb => ?_⟩
      dsimp only
      rw [te_set f2 (by omega) (by omega)]
      by_cases e : a = i ∧ b = j
      · rw [if_pos e, if_pos (by omega), e.1, e.2, W_succ]
      · rw [if_neg e, f3 a b ha hb]
        by_cases e2 : a < i ∨ (a = i ∧ b < j)
        · rw [if_pos e2, if_pos (by omega)]
        · rw [if_neg e2, if_neg (by omega)]) (by
      rintro ⟨U, jj⟩ ⟨f1, f2, f3⟩
      dsimp only at f1 f2 f3
      subst f1
      unfold poset_closed_L4
      dsimp only
      rw [hp, if_false' (dec_f (by omega))]
      refine ⟨_, rfl, f2, fun a b ha hb => ?_⟩
      rw [f3 a b ha hb]
      by_cases e : a < i + 1
      · rw [if_pos e, if_pos (by omega)]
      · rw [if_neg e, if_neg (by omega)])
    rw [bind_of u1, inc64 (by omega)]
    exact ⟨_, rfl, rfl, u2, u3⟩
  · rintro ⟨T, ii⟩ ⟨e1, e2, e3⟩
    dsimp only at e1 e2 e3
    subst e1
    unfold poset_closed_L3
    dsimp only
    rw [hp, if_false' (dec_f (by omega))]
    exact ⟨_, rfl, e2, fun a b ha hb => by rw [e3 a b ha hb, if_pos ha]⟩
theorem closed_ok {n : Nat} (hn : n ≤ 20) {ps : List PR} (h : Rng n ps) : ∃ T, poset_closed ((n : Int), ps, ()) = some T ∧ Tb T ∧ ∀ a b, a < n → b < n → te T a b = W ps n a b := by
  have hl := h.len
  have h0 : Tb (List.replicate 20 (List.replicate 20 false)) := ⟨by simp, fun i hi => by rw [getD_rep]; simp⟩
  obtain ⟨T, t1, t2, t3⟩ := loop_count (B := fun x : List (List Bool) × Int => poset_closed_L1 ((n : Int), ps, ()) (ps.length : Int) x.1 x.2) (fun k x => x.2 = (k : Int) ∧ Tb x.1 ∧ ∀ a b, a < n → b < n → te x.1 a b = pr0 (ps.take k) a b) ps.length (fun T => Tb T ∧ ∀ a b, a < n → b < n → te T a b = W ps 0 a b) (x := (List.replicate 20 (List.replicate 20 false), (0 : Int))) ⟨rfl, h0, fun a b ha hb => by
      show ((List.replicate 20 (List.replicate 20 false)).getD a r20).getD b false = pr0 [] a b
      rw [getD_rep, getD_rep]; rfl⟩ (by
    rintro k ⟨T, kk⟩ hk ⟨e1, e2, e3⟩
    dsimp only at e1 e2 e3
    subst e1
    have hx := h.rng _ (mem_getD' (d := ((0 : Int), (0 : Int), ())) hk)
    unfold poset_closed_L1
    dsimp only
    rw [if_true' (dec_t (by omega)), ck_in (by omega), letO_def, Int.toNat_natCast, ck_in (by omega), ck_in (by omega), letO_def, inc64 (by omega)]
    refine ⟨_, rfl, rfl, tb_set e2 (by omega) _, fun a b ha hb => ?_⟩
    dsimp only
    rw [te_set e2 (by omega) (by omega), List.take_add_one, List.getElem?_eq_getElem hk]
    unfold pr0
    rw [List.any_append, ← getD_lt (d := ((0 : Int), (0 : Int), ())) hk]
    have e3' : te T a b = (ps.take k).any fun x => x.1 == (a : Int) && x.2.1 == (b : Int) := e3 a b ha hb
    rw [e3']
    simp only [Option.toList, List.any_cons, List.any_nil, Bool.or_false]
    by_cases e : a = (ps.getD k ((0 : Int), (0 : Int), ())).1.toNat ∧ b = (ps.getD k ((0 : Int), (0 : Int), ())).2.1.toNat
    · have : ((ps.getD k ((0 : Int), (0 : Int), ())).1 == (a : Int) && (ps.getD k ((0 : Int), (0 : Int), ())).2.1 == (b : Int)) = true := by
        rw [Bool.and_eq_true, beq_iff_eq, beq_iff_eq]; omega
      rw [if_pos e, this, Bool.or_true]
    · have : ((ps.getD k ((0 : Int), (0 : Int), ())).1 == (a : Int) && (ps.getD k ((0 : Int), (0 : Int), ())).2.1 == (b : Int)) = false := by
        rw [Bool.eq_false_iff]
        intro hx2
        rw [Bool.and_eq_true, beq_iff_eq, beq_iff_eq] at hx2
        exact e (by omega)
      rw [if_neg e, this, Bool.or_false]) (by
    rintro ⟨T, kk⟩ ⟨e1, e2, e3⟩
    dsimp only at e1 e2 e3
    subst e1
    unfold poset_closed_L1
    dsimp only
    rw [if_false' (dec_f (by omega))]
    refine ⟨_, rfl, e2, fun a b ha hb => ?_⟩
    rw [e3 a b ha hb, List.take_length]
    rfl)
  obtain ⟨U, u1, u2, u3⟩ := loop_count (B := fun x : List (List Bool) × Int => poset_closed_L2 ((n : Int), ps, ()) x.1 x.2) (fun k x => x.2 = (k : Int) ∧ Tb x.1 ∧ ∀ a b, a < n → b < n → te x.1 a b = W ps k a b) n (fun U => Tb U ∧ ∀ a b, a < n → b < n → te U a b = W ps n a b) (x := (T, (0 : Int))) ⟨rfl, t2, t3⟩ (by
    rintro k ⟨U, kk⟩ hk ⟨e1, e2, e3⟩
    dsimp only at e1 e2 e3
    subst e1
    obtain ⟨V, v1, v2, v3⟩ := stage hn (p := ((n : Int), ps, ())) rfl hk e2 e3
    unfold poset_closed_L2
    dsimp only
    rw [if_true' (dec_t (by omega)), bind_of v1, inc64 (by omega)]
    exact ⟨_, rfl, rfl, v2, v3⟩) (by
    rintro ⟨U, kk⟩ ⟨e1, e2, e3⟩
    dsimp only at e1 e2 e3
    subst e1
    unfold poset_closed_L2
    dsimp only
    rw [if_false' (dec_f (by omega))]
    exact ⟨_, rfl, e2, e3⟩)
  refine ⟨U, ?_, u2, u3⟩
  unfold poset_closed
  rw [letO_def, letO_def]
  dsimp only
  rw [bind_of t1, bind_of u1]
theorem match_chk {n : Nat} (hn : n ≤ 40) (ps : List PR) (hl : ps.length ≤ 4294967296) : ∃ c, match_Check (n : Int) (n : Int) ps = some c ∧ (c = 0 ↔ Rng n ps) := by
  unfold match_Check
  rw [if_false' (by
    rw [Bool.or_eq_false_iff, Bool.or_eq_false_iff, Bool.or_eq_false_iff]
    exact ⟨⟨⟨dec_f (by omega), dec_f (by omega)⟩, dec_f (by omega)⟩, dec_f (by omega)⟩)]
  by_cases h : ps.length ≤ 600
  · rw [if_false' (dec_f (by omega)), letO_def]
    obtain ⟨z, z1, z2⟩ := loop_countE (B := fun x : Int => match_Check_L1 (n : Int) (n : Int) ps (ps.length : Int) x) (fun k x => x = (k : Int) ∧ ∀ i, i < k → 0 ≤ (ps.getD i (0, 0, ())).1 ∧ (ps.getD i (0, 0, ())).1 < (n : Int) ∧ 0 ≤ (ps.getD i (0, 0, ())).2.1 ∧ (ps.getD i (0, 0, ())).2.1 < (n : Int)) ps.length (fun z => (z = .inl () ∧ Rng n ps) ∨ (z = .inr 4 ∧ ¬ Rng n ps)) (x := (0 : Int)) ⟨rfl, fun i hi => by omega⟩ (by
      rintro k x hk ⟨rfl, e⟩
      unfold match_Check_L1
      rw [if_true' (dec_t (by omega)), ck_in (by omega), letO_def, Int.toNat_natCast, inc64 (by omega)]
      split
      · rename_i hx
        rw [Bool.or_eq_true, Bool.or_eq_true, Bool.or_eq_true, decide_eq_true_eq, decide_eq_true_eq, decide_eq_true_eq, decide_eq_true_eq] at hx
        refine .inr ⟨_, rfl, .inr ⟨rfl, fun hR => ?_⟩⟩
        have := hR.rng _ (mem_getD' (d := ((0 : Int), (0 : Int), ())) hk)
        omega
      · rename_i hx
        rw [Bool.or_eq_true, Bool.or_eq_true, Bool.or_eq_true, decide_eq_true_eq, decide_eq_true_eq, decide_eq_true_eq, decide_eq_true_eq] at hx
        refine .inl ⟨_, rfl, rfl, fun i hi => ?_⟩
        by_cases e2 : i = k
        · rw [e2]; omega
        · exact e i (by omega)) (by
      rintro x ⟨rfl, e⟩
      unfold match_Check_L1
      rw [if_false' (dec_f (by omega))]
      refine ⟨_, rfl, .inl ⟨rfl, h, fun x hx => ?_⟩⟩
      obtain ⟨i, hi, rfl⟩ := (mem_getD (d := ((0 : Int), (0 : Int), ()))).1 hx
      exact e i hi)
    rcases z2 with ⟨rfl, z2⟩ | ⟨rfl, z2⟩
    · rw [bindE_inl z1]
      exact ⟨0, rfl, fun _ => z2, fun _ => rfl⟩
    · rw [bindE_inr z1]
      exact ⟨4, rfl, (fun h => by cases h), fun h => absurd h z2⟩
  · rw [if_true' (dec_t (by omega))]
    exact ⟨2, rfl, (fun h => by cases h), fun hR => absurd hR.len h⟩
structure Po (n : Nat) (ps : List PR) : Prop extends Rng n ps where
  le : n ≤ 20
  irr : ∀ k, k < n → W ps n k k = false
theorem pcheck {N : Int} (ps : List PR) (hl : ps.length ≤ 4294967296) : ∃ c, poset_Check (N, ps, ()) = some c ∧ (c = 0 ↔ 0 ≤ N ∧ Po N.toNat ps) := by
  unfold poset_Check
  dsimp only
  by_cases hN : 0 ≤ N ∧ N ≤ 20
  · rw [if_false' (by rw [Bool.or_eq_false_iff]; exact ⟨dec_f (by omega), dec_f (by omega)⟩)]
    obtain ⟨n, rfl⟩ : ∃ n : Nat, N = (n : Int) := ⟨N.toNat, by omega⟩
    rw [Int.toNat_natCast]
    obtain ⟨c, c1, c2⟩ := match_chk (n := n) (by omega) ps hl
    rw [bind_of c1]
    by_cases h0 : c = 0
    · have hR := c2.1 h0
      rw [if_false' (by rw [h0]; rfl)]
      obtain ⟨T, t1, t2, t3⟩ := closed_ok (by omega) hR
      rw [bind_of t1]
      obtain ⟨z, z1, z2⟩ := loop_countE (B := fun x : Int => poset_Check_L1 ((n : Int), ps, ()) T x) (fun k x => x = (k : Int) ∧ ∀ i, i < k → W ps n i i = false) n (fun z => (z = .inl () ∧ ∀ i, i < n → W ps n i i = false) ∨ (z = .inr 9 ∧ ∃ i, i < n ∧ W ps n i i = true)) (x := (0 : Int)) ⟨rfl, fun i hi => by omega⟩ (by
        rintro k x hk ⟨rfl, e⟩
        have hte : (T.getD k (List.replicate 20 false)).getD k false = W ps n k k := t3 k k hk hk
        unfold poset_Check_L1
        dsimp only
        rw [if_true' (dec_t (by omega)), ck_in (by omega), ck_in (by omega), Int.toNat_natCast, hte, inc64 (by omega)]
        cases hw : W ps n k k with
        | true => exact .inr ⟨_, rfl, .inr ⟨rfl, k, hk, hw⟩⟩
        | false =>
          refine .inl ⟨_, rfl, rfl, fun i hi => ?_⟩
          by_cases e2 : i = k
          · rw [e2]; exact hw
          · exact e i (by omega)) (by
        rintro x ⟨rfl, e⟩
        unfold poset_Check_L1
        dsimp only
        rw [if_false' (dec_f (by omega))]
        exact ⟨_, rfl, .inl ⟨rfl, e⟩⟩)
      rcases z2 with ⟨rfl, z2⟩ | ⟨rfl, i, i1, i2⟩
      · rw [bindE_inl z1]
        exact ⟨0, rfl, fun _ => ⟨hN.1, hR, by omega, z2⟩, fun _ => rfl⟩
      · rw [bindE_inr z1]
        exact ⟨9, rfl, (fun h => by cases h), fun h => by rw [h.2.irr i i1] at i2; cases i2⟩
    · rw [if_true' (by rw [bne_iff_ne]; exact h0)]
      exact ⟨c, rfl, fun h => absurd h h0, fun h => absurd (c2.2 h.2.toRng) h0⟩
  · rw [if_true' (by
      rw [Bool.or_eq_true]
      by_cases h0 : N < 0
      · exact .inl (dec_t h0)
      · exact .inr (dec_t (by omega)))]
    exact ⟨1, rfl, (fun h => by cases h), fun h => absurd ⟨h.1, by have := h.2.le; omega⟩ hN⟩
/-- The pairs of a table. -/
theorem pairs_ok {n : Nat} (hn : n ≤ 20) {T : List (List Bool)} (hT : Tb T) {r : Nat → Nat → Bool} (hr : ∀ a b, a < n → b < n → te T a b = r a b) :
    ∃ L, poset_pairs T (n : Int) = some L ∧ L.Nodup ∧ L.length ≤ 400 ∧ ∀ x, x ∈ L ↔ ∃ a b, a < n ∧ b < n ∧ r a b = true ∧ x = ((a : Int), (b : Int), ()) := by
  obtain ⟨L, l1, l2, l3, l4⟩ := loop_count (B := fun x : List PR × Int => poset_pairs_L1 T (n : Int) x.1 x.2) (fun i x => x.2 = (i : Int) ∧ x.1.Nodup ∧ x.1.length ≤ 20 * i ∧ ∀ y, y ∈ x.1 ↔ ∃ a b, a < n ∧ b < n ∧ r a b = true ∧ y = ((a : Int), (b : Int), ()) ∧ a < i) n (fun L => L.Nodup ∧ L.length ≤ 400 ∧ ∀ x, x ∈ L ↔ ∃ a b, a < n ∧ b < n ∧ r a b = true ∧ x = ((a : Int), (b : Int), ())) (x := (([] : List PR), (0 : Int))) ⟨rfl, List.nodup_nil, by simp, fun y => ⟨fun h => by (dsimp only at h; cases h), fun ⟨a, b, _, _, _, _, h⟩ => by omega⟩⟩ (by
    rintro i ⟨o, ii⟩ hi ⟨e1, e2, e3, e4⟩
    dsimp only at e1 e2 e3 e4
    subst e1
    unfold poset_pairs_L1
    dsimp only
    rw [if_true' (dec_t (by omega))]
    obtain ⟨o', p1, p2, p3, p4⟩ := loop_count (B := fun x : List PR × Int => poset_pairs_L2 T (n : Int) (i : Int) x.1 x.2) (fun j x => x.2 = (j : Int) ∧ x.1.Nodup ∧ x.1.length ≤ 20 * i + j ∧ ∀ y, y ∈ x.1 ↔ ∃ a b, a < n ∧ b < n ∧ r a b = true ∧ y = ((a : Int), (b : Int), ()) ∧ (a < i ∨ (a = i ∧ b < j))) n (fun o => o.Nodup ∧ o.length ≤ 20 * (i + 1) ∧ ∀ y, y ∈ o ↔ ∃ a b, a < n ∧ b < n ∧ r a b = true ∧ y = ((a : Int), (b : Int), ()) ∧ a < i + 1) (x := (o, (0 : Int))) ⟨rfl, e2, by dsimp only; omega, fun y => by
        dsimp only
        rw [e4 y]
        constructor
        · rintro ⟨a, b, h1, h2, h3, h4, h5⟩; exact ⟨a, b, h1, h2, h3, h4, .inl h5⟩
        · rintro ⟨a, b, h1, h2, h3, h4, h5⟩; exact ⟨a, b, h1, h2, h3, h4, by omega⟩⟩ (by
      rintro j ⟨o, jj⟩ hj ⟨f1, f2, f3, f4⟩
      dsimp only at f1 f2 f3 f4
      subst f1
      have hte : (T.getD i (List.replicate 20 false)).getD j false = r i j := hr i j hi hj
      unfold poset_pairs_L2 poset_pairs_J3
      dsimp only
      rw [if_true' (dec_t (by omega)), ck_in (by omega), ck_in (by omega)]
      simp only [Int.toNat_natCast]
      rw [inc64 (by omega)]
      cases hw : r i j with
      | true =>
        rw [if_true' (hte.trans hw), ck_in (le_maxL (by simp only [List.length_cons, List.length_nil]; omega))]
        refine ⟨_, rfl, rfl, ?_, ?_, fun y => ?_⟩
        · dsimp only
          rw [List.nodup_append]
          refine ⟨f2, by simp, fun x hx y hy e => ?_⟩
          rw [List.mem_singleton] at hy
          obtain ⟨a, b, h1, h2, h3, h4, h5⟩ := (f4 x).1 hx
          rw [e, hy] at h4
          simp only [Prod.mk.injEq, and_true] at h4
          omega
        · dsimp only
          rw [List.length_append]
          simp only [List.length_cons, List.length_nil]
          omega
        · dsimp only
          rw [List.mem_append, f4 y, List.mem_singleton]
          constructor
          · rintro (⟨a, b, h1, h2, h3, h4, h5⟩ | rfl)
            · exact ⟨a, b, h1, h2, h3, h4, by omega⟩
            · exact ⟨i, j, hi, hj, hw, rfl, by omega⟩
          · rintro ⟨a, b, h1, h2, h3, h4, h5⟩
            by_cases e : a = i ∧ b = j
            · right; rw [h4, e.1, e.2]
            · exact .inl ⟨a, b, h1, h2, h3, h4, by omega⟩
      | false =>
        rw [if_false' (hte.trans hw)]
        refine ⟨_, rfl, rfl, f2, by dsimp only; omega, fun y => ?_⟩
        dsimp only
        rw [f4 y]
        constructor
        · rintro ⟨a, b, h1, h2, h3, h4, h5⟩; exact ⟨a, b, h1, h2, h3, h4, by omega⟩
        · rintro ⟨a, b, h1, h2, h3, h4, h5⟩
          refine ⟨a, b, h1, h2, h3, h4, ?_⟩
          by_cases e : a = i ∧ b = j
          · rw [e.1, e.2, hw] at h3; cases h3
          · omega) (by
      rintro ⟨o, jj⟩ ⟨f1, f2, f3, f4⟩
      dsimp only at f1 f2 f3 f4
      subst f1
      unfold poset_pairs_L2
      dsimp only
      rw [if_false' (dec_f (by omega))]
      refine ⟨_, rfl, f2, by omega, fun y => ?_⟩
      rw [f4 y]
      constructor
      · rintro ⟨a, b, h1, h2, h3, h4, h5⟩; exact ⟨a, b, h1, h2, h3, h4, by omega⟩
      · rintro ⟨a, b, h1, h2, h3, h4, h5⟩; exact ⟨a, b, h1, h2, h3, h4, by omega⟩)
    rw [bind_of p1, inc64 (by omega)]
    exact ⟨_, rfl, rfl, p2, p3, p4⟩) (by
    rintro ⟨o, ii⟩ ⟨e1, e2, e3, e4⟩
    dsimp only at e1 e2 e3 e4
    subst e1
    unfold poset_pairs_L1
    dsimp only
    rw [if_false' (dec_f (by omega))]
    refine ⟨_, rfl, e2, by omega, fun y => ?_⟩
    rw [e4 y]
    constructor
    · rintro ⟨a, b, h1, h2, h3, h4, h5⟩; exact ⟨a, b, h1, h2, h3, h4⟩
    · rintro ⟨a, b, h1, h2, h3, h4⟩; exact ⟨a, b, h1, h2, h3, h4, h1⟩)
  refine ⟨L, ?_, l2, l3, l4⟩
  unfold poset_pairs
  rw [bind_of l1]
theorem close_ok {n : Nat} {ps : List PR} (h : Po n ps) : ∃ L, poset_Close ((n : Int), ps, ()) = some (L, 0) ∧ L.Nodup ∧ L.length ≤ 400 ∧ ∀ x, x ∈ L ↔ ∃ a b, a < n ∧ b < n ∧ W ps n a b = true ∧ x = ((a : Int), (b : Int), ()) := by
  obtain ⟨c, c1, c2⟩ := pcheck (N := (n : Int)) ps (by have := h.len; omega)
  have h0 : c = 0 := c2.2 ⟨by omega, by rw [Int.toNat_natCast]; exact h⟩
  obtain ⟨T, t1, t2, t3⟩ := closed_ok h.le h.toRng
  obtain ⟨L, l1, l2⟩ := pairs_ok h.le t2 t3
  refine ⟨L, ?_, l2⟩
  unfold poset_Close
  rw [bind_of c1, if_false' (by rw [h0]; rfl), bind_of t1, bind_of l1]
theorem close_no {N : Int} {ps : List PR} (hl : ps.length ≤ 4294967296) (h : ¬ (0 ≤ N ∧ Po N.toNat ps)) : ∃ c, poset_Close (N, ps, ()) = some ([], c) ∧ c ≠ 0 := by
  obtain ⟨c, c1, c2⟩ := pcheck (N := N) ps hl
  have h0 : c ≠ 0 := fun e => h (c2.1 e)
  refine ⟨c, ?_, h0⟩
  unfold poset_Close
  rw [bind_of c1, if_true' (by rw [bne_iff_ne]; exact h0)]
end Go.Proofs.Ytaachifkgcdeoaa.Lt
