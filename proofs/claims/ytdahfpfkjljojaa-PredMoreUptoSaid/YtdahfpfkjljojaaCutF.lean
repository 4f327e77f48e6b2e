/- Cuts: All returns the right ones, in their order. -/
import Derived.Test.YtdahfpfkjljojaaCutE
open Go Go.Proofs.Ytdahfpfkjljojaa.Sy Go.Proofs.Ytdahfpfkjljojaa.Pu
set_option linter.unusedVariables false
set_option linter.unusedSimpArgs false
namespace Go.Proofs.Ytdahfpfkjljojaa.Ct
open Go.Proofs.Ytdahfpfkjljojaa.Vc (EV dE z6 evp evk evm VectRun cnt cntV chkF withinF maxV minV)
def nsOf (h : List EV) : List Nat := (List.range 6).map fun p : Nat => (cnt h (p : Int) h.length).toNat
theorem nsOf_len (h : List EV) : (nsOf h).length = 6 := by simp [nsOf]
theorem nsOf_at (h : List EV) {j : Nat} (hj : j < 6) : (((nsOf h).getD j 0 : Nat) : Int) = NF h j := by
  have h0 : 0 ≤ cnt h (j : Int) h.length := Vc.cnt_nonneg
  unfold nsOf
  rw [getD_lt (by simpa using hj), List.getElem_map, List.getElem_range]
  show (((cnt h (j : Int) h.length).toNat : Nat) : Int) = cnt h (j : Int) h.length
  omega
def prodN (f : Nat → Nat) : Nat → Nat
  | 0 => 1
  | k + 1 => prodN f k * (f k + 1)
theorem prod_le (f : Nat → Nat) : ∀ {a b : Nat}, a ≤ b → prodN f a ≤ prodN f b := by
  intro a b hab
  induction hab with
  | refl => exact Nat.le_refl _
  | step _ ih => exact Nat.le_trans ih (by simp only [prodN]; exact Nat.le_mul_of_pos_right _ (by omega))
theorem box6 (ns : List Nat) (hl : ns.length = 6) : boxN ns = prodN (fun j => ns.getD j 0) 6 := by
  rcases ns with _ | ⟨a, _ | ⟨b, _ | ⟨c, _ | ⟨d, _ | ⟨e, _ | ⟨f, _ | ⟨g, ns⟩⟩⟩⟩⟩⟩⟩ <;> simp at hl
  simp [boxN, prodN, Nat.mul_assoc]
abbrev Pn (h : List EV) : Nat := boxN (nsOf h)
noncomputable def clB (st : List (List (List Int))) (c : List Int) : Bool := @decide (Closed (SF st) (c.getD · 0)) (Classical.propDecidable _)
theorem clB_iff {st : List (List (List Int))} {c : List Int} : clB st c = true ↔ Closed (SF st) (c.getD · 0) := by
  unfold clB
  exact @decide_eq_true_iff _ (Classical.propDecidable _)
noncomputable def allTo (h : List EV) (st : List (List (List Int))) (k : Nat) : List (List Int) := ((List.range k).map (dec (nsOf h))).filter (clB st)
theorem allTo_succ (h : List EV) (st : List (List (List Int))) (k : Nat) : allTo h st (k + 1) = if clB st (dec (nsOf h) k) = true then allTo h st k ++ [dec (nsOf h) k] else allTo h st k := by
  unfold allTo
  rw [List.range_succ, List.map_append, List.filter_append]
  simp only [List.map_cons, List.map_nil]
  by_cases e : clB st (dec (nsOf h) k) = true
  · rw [if_pos e, List.filter_cons_of_pos e]; rfl
  · rw [if_neg e, List.filter_cons_of_neg e]; simp
theorem allTo_len (h : List EV) (st : List (List (List Int))) (k : Nat) : (allTo h st k).length ≤ k := by
  have := List.length_filter_le (clB st) ((List.range k).map (dec (nsOf h)))
  rw [List.length_map, List.length_range] at this
  exact this
section
variable {h : List EV} {v : List (List Int)} {st : List (List (List Int))}
theorem dec_valid {k : Nat} (hk : k < Pn h) : Valid (NF h) (dec (nsOf h) k) := by
  refine ⟨by rw [dec_len, nsOf_len], fun j hj => ?_⟩
  have := dec_rng (nsOf h) k hk j (by rw [nsOf_len]; exact hj)
  rw [nsOf_at h hj] at this
  exact this
theorem valid_dec {c : List Int} (hc : Valid (NF h) c) : ∃ k, k < Pn h ∧ dec (nsOf h) k = c :=
  dec_surj (nsOf h) c (by rw [nsOf_len]; exact hc.len) (fun j hj => by
    rw [nsOf_len] at hj
    rw [nsOf_at h hj]
    exact hc.rng j hj)
theorem mem_all {c : List Int} : c ∈ allTo h st (Pn h) ↔ Valid (NF h) c ∧ Closed (SF st) (c.getD · 0) := by
  unfold allTo
  rw [List.mem_filter, clB_iff]
  constructor
  · rintro ⟨h1, h2⟩
    obtain ⟨k, k1, rfl⟩ := List.mem_map.1 h1
    exact ⟨dec_valid (List.mem_range.1 k1), h2⟩
  · rintro ⟨h1, h2⟩
    obtain ⟨k, k1, rfl⟩ := valid_dec h1
    exact ⟨List.mem_map.2 ⟨k, List.mem_range.2 k1, rfl⟩, h2⟩
theorem sizes_room (X : Cx h v st) : ∃ z, loopO (fun x : Int × Int => cut_All_L1 (cntV h h.length) x.1 x.2) ((1 : Int), (0 : Int)) = some z ∧ ((z = .inl () ∧ Pn h ≤ 4096) ∨ (z = .inr ([], 2) ∧ 4096 < Pn h)) := by
  have hP : Pn h = prodN (fun j => (nsOf h).getD j 0) 6 := box6 _ (nsOf_len h)
  rw [hP]
  refine loop_countE (fun k x => x.2 = (k : Int) ∧ x.1 = ((prodN (fun j => (nsOf h).getD j 0) k : Nat) : Int) ∧ prodN (fun j => (nsOf h).getD j 0) k ≤ 4096) 6 _ ⟨rfl, rfl, by show 1 ≤ 4096; decide⟩ ?_ ?_
  · rintro k ⟨m, kk⟩ hk ⟨e1, e2, e3⟩
    dsimp only at e1 e2
    subst e1 e2
    have hn : 0 ≤ cnt h (k : Int) h.length ∧ cnt h (k : Int) h.length ≤ 60 := X.fact.nn k hk
    have hnk : (((nsOf h).getD k 0 : Nat) : Int) = cnt h (k : Int) h.length := nsOf_at h hk
    have hmul : ((prodN (fun j => (nsOf h).getD j 0) k : Nat) : Int) * (cnt h (k : Int) h.length + 1) = ((prodN (fun j => (nsOf h).getD j 0) (k + 1) : Nat) : Int) := by
      rw [← hnk]
      simp only [prodN]
      push_cast
      rfl
    have hb : prodN (fun j => (nsOf h).getD j 0) (k + 1) ≤ 4096 * 61 := Nat.mul_le_mul e3 (by show (nsOf h).getD k 0 + 1 ≤ 61; omega)
    unfold cut_All_L1
    dsimp only
    rw [if_true' (dec_t (by omega)), ck_in (by omega), letO_def, Int.toNat_natCast, Vc.cntV_at hk, letO_def, add64 (by omega) (by omega), mul64 (by rw [hmul]; omega) (by rw [hmul]; omega), hmul]
    by_cases h4 : prodN (fun j => (nsOf h).getD j 0) (k + 1) ≤ 4096
    · rw [if_false' (dec_f (by omega)), inc64 (by omega)]
      exact .inl ⟨_, rfl, rfl, rfl, h4⟩
    · rw [if_true' (dec_t (by omega))]
      refine .inr ⟨_, rfl, .inr ⟨rfl, ?_⟩⟩
      have := prod_le (fun j => (nsOf h).getD j 0) (show k + 1 ≤ 6 by omega)
      omega
  · rintro ⟨m, kk⟩ ⟨e1, e2, e3⟩
    dsimp only at e1 e2
    subst e1 e2
    unfold cut_All_L1
    dsimp only
    rw [if_false' (dec_f (by omega))]
    exact ⟨_, rfl, .inl ⟨rfl, e3⟩⟩
/-- From one vector to the next. -/
theorem odo {c : List Int} (hl : c.length = 6) {N : List Int} (hN : N.length = 6) : ∃ d : List Int, ∃ p : Int, loopO (fun x : List Int × Int => cut_All_L4 N x.1 x.2) (c, (5 : Int)) = some (d, p) ∧ -1 ≤ p ∧ p < 6 ∧ d.length = 6 ∧ (∀ j : Nat, (j : Int) ≤ p → d.getD j 0 = c.getD j 0) ∧ (∀ j : Nat, p < (j : Int) → j < 6 → d.getD j 0 = 0 ∧ c.getD j 0 = N.getD j 0) ∧ (0 ≤ p → c.getD p.toNat 0 ≠ N.getD p.toNat 0) := by
  obtain ⟨⟨d, p⟩, h1, h2⟩ := loop_countE (B := fun x : List Int × Int => cut_All_L4 N x.1 x.2) (fun k x => x.2 = 5 - (k : Int) ∧ x.1.length = 6 ∧ (∀ j : Nat, (j : Int) ≤ x.2 → x.1.getD j 0 = c.getD j 0) ∧ (∀ j : Nat, x.2 < (j : Int) → j < 6 → x.1.getD j 0 = 0 ∧ c.getD j 0 = N.getD j 0)) 6 (fun z => -1 ≤ z.2 ∧ z.2 < 6 ∧ z.1.length = 6 ∧ (∀ j : Nat, (j : Int) ≤ z.2 → z.1.getD j 0 = c.getD j 0) ∧ (∀ j : Nat, z.2 < (j : Int) → j < 6 → z.1.getD j 0 = 0 ∧ c.getD j 0 = N.getD j 0) ∧ (0 ≤ z.2 → c.getD z.2.toNat 0 ≠ N.getD z.2.toNat 0)) (x := (c, (5 : Int))) ⟨rfl, hl, fun j hj => rfl, fun j h1 h2 => by dsimp only at h1; omega⟩ (by
    rintro k ⟨d, p⟩ hk ⟨e1, e2, e3, e4⟩
    dsimp only at e1 e2 e3 e4
    subst e1
    have hp := e3 (5 - (k : Int)).toNat (by omega)
    unfold cut_All_L4
    dsimp only
    rw [ck_in (by intro _; omega), ck_in (by intro _; omega)]
    by_cases h1 : c.getD (5 - (k : Int)).toNat 0 = N.getD (5 - (k : Int)).toNat 0
    · rw [if_true' (by rw [Bool.and_eq_true]; exact ⟨dec_t (by omega), by rw [beq_iff_eq, hp]; exact h1⟩), ck_in (by omega), letO_def, sub64 (by omega) (by omega)]
      refine .inl ⟨_, rfl, by dsimp only; omega, by simpa using e2, fun j hj => ?_, fun j hj hj6 => ?_⟩
      · dsimp only at hj ⊢
        rw [getD_setD (by omega), if_neg (by omega)]
        exact e3 j (by omega)
      · dsimp only at hj ⊢
        rw [getD_setD (by omega)]
        by_cases e5 : j = (5 - (k : Int)).toNat
        · rw [if_pos e5, e5]; exact ⟨rfl, h1⟩
        · rw [if_neg e5]; exact e4 j (by omega) hj6
    · rw [if_false' (by rw [Bool.and_eq_false_iff]; right; rw [beq_eq_false_iff_ne, hp]; exact h1)]
      exact .inr ⟨_, rfl, by dsimp only; omega, by dsimp only; omega, e2, e3, e4, fun _ => h1⟩) (by
    rintro ⟨d, p⟩ ⟨e1, e2, e3, e4⟩
    dsimp only at e1 e2 e3 e4
    subst e1
    unfold cut_All_L4
    dsimp only
    rw [ck_in (by intro hx; have := of_decide_eq_true hx; omega), ck_in (by intro hx; have := of_decide_eq_true hx; omega), if_false' (by rw [Bool.and_eq_false_iff]; left; exact dec_f (by omega))]
    exact ⟨_, rfl, by dsimp only; omega, by dsimp only; omega, e2, e3, e4, fun hx => by dsimp only at hx; omega⟩)
  exact ⟨d, p, h1, h2⟩
theorem all_J3 (X : Cx h v st) {k : Nat} (hk : k < Pn h) (out : List (List Int)) : cut_All_J3 (cntV h h.length) (dec (nsOf h) k) out = if k + 1 = Pn h then some (.inr (out, 0)) else some (.inl (out, dec (nsOf h) (k + 1))) := by
  have hv := dec_valid hk
  obtain ⟨d, p, d1, d2, d3, d4, d5, d6, d7⟩ := odo hv.len (cntV_len h h.length)
  have hNj : ∀ j, j < 6 → (cntV h h.length).getD j 0 = (((nsOf h).getD j 0 : Nat) : Int) := fun j hj => by rw [Vc.cntV_at hj, nsOf_at h hj]
  unfold cut_All_J3
  rw [bind_of d1]
  dsimp only
  rcases dec_next (nsOf h) k hk with ⟨h1, q, q1, q2, q3, q4, q5, q6⟩ | ⟨h1, h2⟩
  · rw [nsOf_len] at q1 q3
    have hpq : p = (q : Int) := by
      have a : (q : Int) ≤ p := by
        refine Classical.byContradiction fun hn => q2 ?_
        rw [(d6 q (by omega) q1).2, hNj q q1]
      refine Classical.byContradiction fun hn => d7 (by omega) ?_
      rw [hNj _ (by omega)]
      exact q3 p.toNat (by omega) (by omega)
    subst hpq
    have hb := hv.rng q q1
    have hn : NF h q ≤ 60 := (X.fact.nn q q1).2
    rw [if_false' (dec_f (by omega)), ck_in (by omega), ck_in (by omega), letO_def, if_neg (Nat.ne_of_lt h1), Int.toNat_natCast, d5 q (Int.le_refl _), add64 (by omega) (by omega)]
    congr 3
    refine ext_getD 0 (by rw [List.length_set, d4, dec_len, nsOf_len]) fun j hj => ?_
    rw [List.length_set, d4] at hj
    rw [getD_setD (by omega)]
    by_cases e : j = q
    · rw [if_pos e, e, q5]
    · rw [if_neg e]
      rcases Nat.lt_or_gt_of_ne e with e' | e'
      · rw [d5 j (by omega), q4 j e']
      · rw [(d6 j (by omega) hj).1, q6 j e']
  · rw [nsOf_len] at h2
    have hp : p < 0 := by
      refine Classical.byContradiction fun hn => d7 (by omega) ?_
      rw [hNj _ (by omega)]
      exact h2 p.toNat (by omega)
    rw [if_true' (dec_t hp), if_pos h1]
theorem All_ok (X : Cx h v st) (hP : Pn h ≤ 4096) : cut_All h = some (allTo h st (Pn h), 0) := by
  have hpos := box_pos (nsOf h)
  unfold cut_All
  rw [bind_of (chk_eq h), X.chk, if_false' (by rfl), bind_of (sizes_eq X.good)]
  obtain ⟨z, z1, z2⟩ := sizes_room X
  rcases z2 with ⟨rfl, _⟩ | ⟨rfl, z2⟩
  · rw [bindE_inl z1]
    have hst : ∀ k, k < Pn h → cut_All_L2 h (cntV h h.length) (allTo h st k) (dec (nsOf h) k) = if k + 1 = Pn h then some (.inr (allTo h st (k + 1), 0)) else some (.inl (allTo h st (k + 1), dec (nsOf h) (k + 1))) := by
      intro k hk
      have hv := dec_valid hk
      obtain ⟨g, g1, g2, g3⟩ := grow_ok X hv
      have hcl : eqA6I g (dec (nsOf h) k) = true ↔ Closed (SF st) ((dec (nsOf h) k).getD · 0) := by
        rw [eqA6I_iff]
        constructor
        · intro e
          exact closed_of_fix fun j hj => by rw [← g3 j hj, e]
        · intro hcl
          exact ext_getD 0 (g2.trans hv.len.symm) fun j hj => (g3 j (by omega)).trans (gk_fix hcl (by omega))
      unfold cut_All_L2
      rw [bind_of g1]
      have hlen := allTo_len h st k
      by_cases e : Closed (SF st) ((dec (nsOf h) k).getD · 0)
      · rw [if_true' (hcl.2 e), ck_in (le_maxL (by simp only [List.length_cons, List.length_nil]; omega)), all_J3 X hk, allTo_succ, if_pos (clB_iff.2 e)]
      · rw [if_false' (by cases hx : eqA6I g (dec (nsOf h) k) with | true => exact absurd (hcl.1 hx) e | false => rfl), all_J3 X hk, allTo_succ, if_neg (fun hx => e (clB_iff.1 hx))]
    have h0 : dec (nsOf h) 0 = [(0 : Int), (0 : Int), (0 : Int), (0 : Int), (0 : Int), (0 : Int)] := by
      refine ext_getD 0 (by rw [dec_len, nsOf_len]; rfl) fun j hj => ?_
      rw [dec_len, nsOf_len] at hj
      rw [dec_zero]
      rcases j with _ | _ | _ | _ | _ | _ | j <;> first | rfl | omega
    rw [← h0]
    refine loop_from (fun k => (allTo h st k, dec (nsOf h) k)) (Pn h - 1) rfl (fun k hk => ?_) ?_
    · dsimp only
      rw [hst k (Nat.lt_of_lt_of_le hk (Nat.sub_le _ _)), if_neg (fun e => Nat.lt_irrefl _ (Nat.lt_of_lt_of_eq (Nat.lt_of_lt_of_eq (Nat.add_lt_add_right hk 1) (Nat.sub_add_cancel hpos)) e.symm))]
    · dsimp only
      rw [hst (Pn h - 1) (Nat.sub_lt hpos (by decide)), if_pos (Nat.sub_add_cancel hpos), Nat.sub_add_cancel hpos]
  · omega
theorem All_large (X : Cx h v st) (hP : 4096 < Pn h) : cut_All h = some ([], 2) := by
  unfold cut_All
  rw [bind_of (chk_eq h), X.chk, if_false' (by rfl), bind_of (sizes_eq X.good)]
  obtain ⟨z, z1, z2⟩ := sizes_room X
  rcases z2 with ⟨rfl, z2⟩ | ⟨rfl, _⟩
  · omega
  · rw [bindE_inr z1]
theorem All_bad {h : List EV} (hc : chkF h ≠ 0) : cut_All h = some ([], chkF h) := by
  unfold cut_All
  rw [bind_of (chk_eq h), if_true' (by rw [bne_iff_ne]; exact hc)]
end
end Go.Proofs.Ytdahfpfkjljojaa.Ct
