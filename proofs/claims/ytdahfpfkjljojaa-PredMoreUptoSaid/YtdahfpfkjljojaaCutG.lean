/- Cuts: how many right ones there are, and steps from one to the next. -/
import Derived.Test.YtdahfpfkjljojaaCutF
open Go Go.Proofs.Ytdahfpfkjljojaa.Sy Go.Proofs.Ytdahfpfkjljojaa.Pu
set_option linter.unusedVariables false
set_option linter.unusedSimpArgs false
namespace Go.Proofs.Ytdahfpfkjljojaa.Ct
open Go.Proofs.Ytdahfpfkjljojaa.Vc (EV dE z6 evp evk evm VectRun cnt cntV chkF withinF maxV minV)
theorem contains_eq (L : List (List Int)) (c : List Int) (hl : L.length ≤ 1000000) : slices_Contains_LVector_Vector L c = some (decide (c ∈ L)) := by
  have h := find_loop (B := fun x : Int => slices_Index_LVector_Vector_L1 L c (L.length : Int) x) (l := L) (d := List.replicate 6 (0 : Int)) (P := fun t => decide (c = t)) (g := fun k => Sum.inr (k : Int)) (e := Sum.inl ()) (fun k hk => by
    unfold slices_Index_LVector_Vector_L1
    rw [if_true' (dec_t (by omega)), ck_in (by omega), inc64 (by omega), Int.toNat_natCast]
    by_cases e : c = L.getD k (List.replicate 6 (0 : Int))
    · rw [if_true' ((eqA6I_iff _ _).2 e), if_pos (decide_eq_true e)]
    · rw [if_false' (by cases hx : eqA6I c (L.getD k (List.replicate 6 (0 : Int))) with | true => exact absurd ((eqA6I_iff _ _).1 hx) e | false => rfl), if_neg (by rw [decide_eq_true_eq]; exact e)]) (by
    unfold slices_Index_LVector_Vector_L1
    rw [if_false' (dec_f (by omega))])
  unfold slices_Contains_LVector_Vector slices_Index_LVector_Vector
  rw [letO_def]
  by_cases hm : c ∈ L
  · obtain ⟨j, hj, _⟩ := find_some (P := fun t => decide (c = t)) hm (by simp)
    rw [hj] at h
    rw [bindE_inr h, bind_of rfl, decide_eq_true hm, dec_t (by omega)]
  · rw [find_none (P := fun t => decide (c = t)) (fun x hx => decide_eq_false fun e => hm (e ▸ hx))] at h
    rw [bindE_inl h, bind_of rfl, decide_eq_false hm, dec_f (by omega)]
def takes (h : List EV) : Bool := h.any fun e => e.2.1 == 3
theorem takes_eq (h : List EV) (hl : h.length ≤ 1000000) : slices_ContainsFunc_LEvent_Event_1_23 h () = some (takes h) := by
  have hh := find_loop (B := fun x : Int => slices_IndexFunc_LEvent_Event_1_23_L1 h (h.length : Int) x) (l := h) (d := ((0 : Int), (0 : Int), (0 : Int), ())) (P := fun e => e.2.1 == 3) (g := fun k => Sum.inr (k : Int)) (e := Sum.inl ()) (fun k hk => by
    unfold slices_IndexFunc_LEvent_Event_1_23_L1 CutMany_1
    rw [if_true' (dec_t (by omega)), ck_in (by omega), inc64 (by omega), Int.toNat_natCast, bind_of rfl]) (by
    unfold slices_IndexFunc_LEvent_Event_1_23_L1
    rw [if_false' (dec_f (by omega))])
  unfold slices_ContainsFunc_LEvent_Event_1_23 slices_IndexFunc_LEvent_Event_1_23
  rw [letO_def]
  cases hf : h.findIdx? (fun e => e.2.1 == 3) with
  | none =>
    rw [hf] at hh
    have ht : takes h = false := by
      unfold takes
      rw [List.any_eq_false]
      intro x hx
      rw [List.findIdx?_eq_none_iff.1 hf x hx]
      simp
    rw [bindE_inl hh, bind_of rfl, ht, dec_f (by omega)]
  | some j =>
    rw [hf] at hh
    obtain ⟨h1, h2, _⟩ := find_at (d := ((0 : Int), (0 : Int), (0 : Int), ())) hf
    have ht : takes h = true := List.any_eq_true.2 ⟨_, mem_getD' (d := ((0 : Int), (0 : Int), (0 : Int), ())) h1, h2⟩
    rw [bindE_inr hh, bind_of rfl, ht, dec_t (by omega)]
section
variable {h : List EV} {v : List (List Int)} {st : List (List (List Int))}
/-- Without messages taken, all cuts are right. -/
theorem free_closed (X : Cx h v st) (hf : takes h = false) {c : List Int} (hc : Valid (NF h) c) : Closed (SF st) (c.getD · 0) := by
  have hz : ∀ k, k < h.length → ∀ j : Nat, j < 6 → (j : Int) ≠ evp h k → (v.getD k z6).getD j 0 = 0 := by
    intro k
    induction k using Nat.strongRecOn with
    | ind k ih =>
      intro hk j hj hne
      obtain ⟨p0, p6, _, _⟩ := X.good.ev k hk
      have hnt : ¬ ((evk h k == (3 : Int)) = true) := fun e => by
        have : takes h = true := List.any_eq_true.2 ⟨_, mem_getD' (d := ((0 : Int), (0 : Int), (0 : Int), ())) hk, e⟩
        rw [hf] at this; cases this
      rw [Vc.vect_at X.good X.run hk hj, if_neg hnt, if_neg (by omega)]
      have := Vc.lastOf_prop (P := fun i => evp h i == evp h k) (v := (v.getD · z6)) (z := z6) (k := k) (fun x : List Int => x.getD j 0 = 0) (by exact getD_rep) (fun i hi hP => ih i hi (by omega) j hj (by rw [beq_iff_eq] at hP; rw [hP]; exact hne))
      have e : Vc.was z6 h (v.getD · z6) k = lastOf (fun i => evp h i == evp h k) (v.getD · z6) z6 k := rfl
      rw [e, this]
      rfl
  intro p hp h0 j hj
  dsimp only at h0 ⊢
  have hr := hc.rng p hp
  obtain ⟨i, i1, i2, i3, i4⟩ := SF_at X.s (by omega : 1 ≤ c.getD p 0) hr.2
  by_cases e : j = p
  · rw [e, X.fact.own p _ hp (by omega) hr.2]
    exact Int.le_refl _
  · rw [i4, hz i i1 j hj (by rw [i2]; omega)]
    exact (hc.rng j hj).1
theorem free_len (X : Cx h v st) (hf : takes h = false) : (allTo h st (Pn h)).length = Pn h := by
  unfold allTo
  rw [List.filter_eq_self.2 (fun c hc => by
    obtain ⟨k, k1, rfl⟩ := List.mem_map.1 hc
    exact clB_iff.2 (free_closed X hf (dec_valid (List.mem_range.1 k1)))), List.length_map, List.length_range]
theorem many_le (X : Cx h v st) : h.length + 1 ≤ (allTo h st (Pn h)).length := by
  have := nodup_len ((List.range (h.length + 1)).map (cntV h)) (allTo h st (Pn h)) (by
    refine List.pairwise_map.2 ?_
    refine List.Pairwise.imp ?_ List.pairwise_lt_range
    intro a b hab e
    by_cases hb : b ≤ h.length
    · obtain ⟨p0, p6, _, _⟩ := X.good.ev a (by omega)
      have h1 : cnt h (evp h a) a = cnt h (evp h a) b := by
        have := congrArg (fun l : List Int => l.getD (evp h a).toNat 0) e
        rw [Vc.cntV_at (by omega), Vc.cntV_at (by omega), show (((evp h a).toNat : Nat) : Int) = evp h a by omega] at this
        exact this
      have h2 := cnt_succ h (evp h a) a
      rw [if_pos rfl] at h2
      have h3 : cnt h (evp h a) (a + 1) ≤ cnt h (evp h a) b := Vc.cnt_mono (by omega)
      omega
    · have h0 : ∀ i, h.length ≤ i → evp h i = 0 := fun i hi => by show (h.getD i dE).1 = 0; rw [getD_ge hi]
      have h1 : cnt h 0 a = cnt h 0 b := by
        have := congrArg (fun l : List Int => l.getD 0 0) e
        rw [Vc.cntV_at (by omega), Vc.cntV_at (by omega)] at this
        exact this
      by_cases ha : h.length ≤ a
      · have h2 := cnt_succ h 0 a
        rw [if_pos (h0 a ha)] at h2
        have h3 : cnt h 0 (a + 1) ≤ cnt h 0 b := Vc.cnt_mono (by omega)
        omega
      · have h2 := cnt_succ h 0 h.length
        rw [if_pos (h0 _ (Nat.le_refl _))] at h2
        have h3 : cnt h 0 (h.length + 1) ≤ cnt h 0 b := Vc.cnt_mono (by omega)
        have h4 : cnt h 0 a ≤ cnt h 0 h.length := Vc.cnt_mono (by omega)
        omega) (by
    intro c hc
    obtain ⟨k, k1, rfl⟩ := List.mem_map.1 hc
    have hk : k ≤ h.length := by have := List.mem_range.1 k1; omega
    exact mem_all.2 ⟨valid_pref X k hk, closed_cntV X k hk⟩)
  rw [List.length_map, List.length_range] at this
  exact this
theorem room_eq (X : Cx h v st) (hP : Pn h ≤ 4096) : R_Room h = some ((Pn h : Nat) : Int) := by
  have hb6 : Pn h = prodN (fun j => (nsOf h).getD j 0) 6 := box6 _ (nsOf_len h)
  rw [hb6] at hP
  unfold R_Room
  rw [bind_of (rsizes_eq X.good), hb6]
  refine bind_of (loop_from (fun k => (((prodN (fun j => (nsOf h).getD j 0) k : Nat) : Int), (k : Int))) 6 rfl (fun k hk => ?_) ?_)
  · have hn : 0 ≤ cnt h (k : Int) h.length ∧ cnt h (k : Int) h.length ≤ 60 := X.fact.nn k hk
    have hnk : (((nsOf h).getD k 0 : Nat) : Int) = cnt h (k : Int) h.length := nsOf_at h hk
    have hmul : ((prodN (fun j => (nsOf h).getD j 0) k : Nat) : Int) * (cnt h (k : Int) h.length + 1) = ((prodN (fun j => (nsOf h).getD j 0) (k + 1) : Nat) : Int) := by
      rw [← hnk]
      simp only [prodN]
      push_cast
      rfl
    have hb := prod_le (fun j => (nsOf h).getD j 0) (show k + 1 ≤ 6 by omega)
    unfold R_Room_L1
    dsimp only
    rw [if_true' (dec_t (by omega)), ck_in (by omega), letO_def, Int.toNat_natCast, Vc.cntV_at hk, letO_def, add64 (by omega) (by omega), mul64 (by rw [hmul]; omega) (by rw [hmul]; omega), hmul, inc64 (by omega)]
  · unfold R_Room_L1
    dsimp only
    rw [if_false' (dec_f (by omega))]
end
theorem many_law (h : List EV) : CutMany h = some true := by
  unfold CutMany
  obtain ⟨v0, st0, X0⟩ := cx_of (h := [((0 : Int), (1 : Int), (0 : Int), ()), ((1 : Int), (1 : Int), (0 : Int), ())]) (by decide +kernel)
  have hP0 : Pn [((0 : Int), (1 : Int), (0 : Int), ()), ((1 : Int), (1 : Int), (0 : Int), ())] = 4 := by decide +kernel
  have hl0 := free_len X0 (by decide)
  rw [bind_of (All_ok X0 (by rw [hP0]; decide))]
  dsimp only
  rw [if_false' (by rw [hl0, hP0]; rfl)]
  by_cases hc : chkF h = 0
  · obtain ⟨v, st, X⟩ := cx_of hc
    by_cases hP : Pn h ≤ 4096
    · have hl := X.good.len
      have h1 := many_le X
      have h2 := allTo_len h st (Pn h)
      rw [bind_of (All_ok X hP), if_false' (by rfl), bind_of (takes_eq h (by omega)), letO_def, room_eq X hP, letO_def, ck_in (by intro _; rfl), letO_def, ck_in (by intro _ _; rfl)]
      congr 1
      simp only [Option.getD_some]
      rw [inc64 (by omega), dec_t (by omega), dec_t (by omega)]
      cases hf : takes h with
      | true => rfl
      | false =>
        have := free_len X hf
        simp [this]
    · rw [bind_of (All_large X (by omega)), if_true' (by rfl)]
      rfl
  · rw [bind_of (All_bad hc), if_true' (by rw [bne_iff_ne]; exact hc)]
    rfl
theorem sent_all : cut_All sentH = some ([[(0 : Int), (0 : Int), (0 : Int), (0 : Int), (0 : Int), (0 : Int)], [(1 : Int), (0 : Int), (0 : Int), (0 : Int), (0 : Int), (0 : Int)], [(1 : Int), (1 : Int), (0 : Int), (0 : Int), (0 : Int), (0 : Int)]], 0) := by
  obtain ⟨v, st, X, s0, s1⟩ := sent_cx
  have hP : Pn sentH = 4 := by decide +kernel
  rw [All_ok X (by rw [hP]; decide), hP, allTo_succ, allTo_succ, allTo_succ, allTo_succ]
  have d0 : dec (nsOf sentH) 0 = [(0 : Int), (0 : Int), (0 : Int), (0 : Int), (0 : Int), (0 : Int)] := by decide +kernel
  have d1 : dec (nsOf sentH) 1 = [(0 : Int), (1 : Int), (0 : Int), (0 : Int), (0 : Int), (0 : Int)] := by decide +kernel
  have d2 : dec (nsOf sentH) 2 = [(1 : Int), (0 : Int), (0 : Int), (0 : Int), (0 : Int), (0 : Int)] := by decide +kernel
  have d3 : dec (nsOf sentH) 3 = [(1 : Int), (1 : Int), (0 : Int), (0 : Int), (0 : Int), (0 : Int)] := by decide +kernel
  have c0 : cntV sentH 0 = [(0 : Int), (0 : Int), (0 : Int), (0 : Int), (0 : Int), (0 : Int)] := by decide +kernel
  have c1 : cntV sentH 1 = [(1 : Int), (0 : Int), (0 : Int), (0 : Int), (0 : Int), (0 : Int)] := by decide +kernel
  have c2 : cntV sentH 2 = [(1 : Int), (1 : Int), (0 : Int), (0 : Int), (0 : Int), (0 : Int)] := by decide +kernel
  have k0 := closed_cntV X 0 (by decide)
  have k1 := closed_cntV X 1 (by decide)
  have k2 := closed_cntV X 2 (by decide)
  rw [c0] at k0
  rw [c1] at k1
  rw [c2] at k2
  have n1 : ¬ clB st [(0 : Int), (1 : Int), (0 : Int), (0 : Int), (0 : Int), (0 : Int)] = true := fun hx => by
    have h1 := clB_iff.1 hx 1 (by decide) (by decide) 0 (by decide)
    have h2 : SF st 1 1 0 ≤ 0 := h1
    rw [s1] at h2
    exact absurd h2 (by decide)
  have p0 : clB st [(0 : Int), (0 : Int), (0 : Int), (0 : Int), (0 : Int), (0 : Int)] = true := clB_iff.2 k0
  have p1 : clB st [(1 : Int), (0 : Int), (0 : Int), (0 : Int), (0 : Int), (0 : Int)] = true := clB_iff.2 k1
  have p2 : clB st [(1 : Int), (1 : Int), (0 : Int), (0 : Int), (0 : Int), (0 : Int)] = true := clB_iff.2 k2
  rw [d0, d1, d2, d3, if_pos p0, if_neg n1, if_pos p1, if_pos p2]
  rfl
theorem steps_law (h : List EV) (t : List Int) (ht : t.length = 6) : CutSteps h t = some true := by
  unfold CutSteps
  rw [show sent = some sentH from rfl, bind_of rfl, bind_of sent_all]
  dsimp only
  rw [show ∀ a b, slices_Equal_LVector_Vector a b = Vc.slices_Equal_LVector_Vector a b from fun _ _ => rfl, Vc.equalV_eq _ _ (by decide), letO_def, ck_in (by intro _; rfl), if_false' (by decide)]
  by_cases hc : chkF h = 0
  · obtain ⟨v, st, X⟩ := cx_of hc
    by_cases hP : Pn h ≤ 4096
    · have hl := X.good.len
      have h1 := many_le X
      have h2 := allTo_len h st (Pn h)
      have hpos := box_pos (nsOf h)
      obtain ⟨c, s1, s2⟩ := some_ok X ht
      obtain ⟨b, b1, b2⟩ := Right_ok X s2
      rw [bind_of (All_ok X hP), if_false' (by rfl), bind_of s1, bind_of b1]
      dsimp only
      rw [contains_eq _ _ (by omega), letO_def, ck_in (by intro _; rfl)]
      simp only [Option.getD_some]
      have hb : decide (c ∈ allTo h st (Pn h)) = b := by
        rw [Bool.eq_iff_iff, decide_eq_true_eq, mem_all, b2]
        exact ⟨fun x => x.2, fun x => ⟨s2, x⟩⟩
      rw [if_false' (by rw [hb, (eqB_iff b b).2 rfl]; rfl), rsizes_eq X.good, letO_def, ck_in (by intro _; rfl)]
      simp only [Option.getD_some]
      have hJ : CutSteps_J1 h (allTo h st (Pn h), 0) = some true := by
        have e1 : (allTo h st (Pn h)).getD 0 (List.replicate 6 (0 : Int)) = [(0 : Int), (0 : Int), (0 : Int), (0 : Int), (0 : Int), (0 : Int)] := by
          obtain ⟨n, hn⟩ : ∃ n, Pn h = n + 1 := ⟨Pn h - 1, (Nat.sub_add_cancel hpos).symm⟩
          have h0 : dec (nsOf h) 0 = [(0 : Int), (0 : Int), (0 : Int), (0 : Int), (0 : Int), (0 : Int)] := by
            refine ext_getD 0 (by rw [dec_len, nsOf_len]; rfl) fun j hj => ?_
            rw [dec_len, nsOf_len] at hj
            rw [dec_zero]
            rcases j with _ | _ | _ | _ | _ | _ | j <;> first | rfl | omega
          have hk : Closed (SF st) ((dec (nsOf h) 0).getD · 0) := by
            intro p hp h0
            dsimp only at h0
            rw [dec_zero] at h0
            omega
          unfold allTo
          rw [hn, List.range_succ_eq_map, List.map_cons, List.filter_cons_of_pos (clB_iff.2 hk), h0]
          rfl
        have e2 : (allTo h st (Pn h)).getD ((allTo h st (Pn h)).length - 1) (List.replicate 6 (0 : Int)) = cntV h h.length := by
          have h0 : dec (nsOf h) (Pn h - 1) = cntV h h.length := by
            refine ext_getD 0 (by rw [dec_len, nsOf_len, cntV_len]) fun j hj => ?_
            rw [dec_len, nsOf_len] at hj
            rw [dec_top _ j (by rw [nsOf_len]; exact hj), nsOf_at h hj, Vc.cntV_at hj]
          have e : allTo h st (Pn h) = allTo h st (Pn h - 1) ++ [cntV h h.length] := by
            conv => lhs; rw [show Pn h = Pn h - 1 + 1 from (Nat.sub_add_cancel hpos).symm]
            rw [allTo_succ, h0, if_pos (clB_iff.2 (closed_cntV X _ (Nat.le_refl _)))]
          rw [e, getD_app, if_pos (by simp)]
        unfold CutSteps_J1
        dsimp only
        rw [ck_in (by intro _; omega), sub64 (by omega) (by omega), show (((allTo h st (Pn h)).length : Int) - 1).toNat = (allTo h st (Pn h)).length - 1 by omega, ck_in (by intro _; omega), rsizes_eq X.good, letO_def, ck_in (by intro _; rfl), e1, e2]
        simp only [Option.getD_some]
        rw [(eqA6I_iff _ _).2 rfl, (eqA6I_iff _ _).2 rfl, dec_t (by omega)]
        rfl
      by_cases hb2 : b = true ∧ c ≠ cntV h h.length
      · rw [if_true' (by
          rw [Bool.and_eq_true]
          refine ⟨hb2.1, ?_⟩
          cases hx : eqA6I c (cntV h h.length) with
          | true => exact absurd ((eqA6I_iff _ _).1 hx) hb2.2
          | false => rfl)]
        obtain ⟨p, p1, p2, p3⟩ := closed_step X s2.rng (b2.1 hb2.1) (by
          refine Classical.byContradiction fun hn => hb2.2 (ext_getD 0 (by rw [s2.len, cntV_len]) fun j hj => ?_)
          have hj6 : j < 6 := by rw [← s2.len]; exact hj
          rw [Vc.cntV_at hj6]
          have h3 := (s2.rng j hj6).2
          have h4 : ¬ c.getD j 0 < NF h j := fun hx => hn ⟨j, hj6, hx⟩
          show c.getD j 0 = NF h j
          omega)
        have hin : c.set p (c.getD p 0 + 1) ∈ allTo h st (Pn h) := by
          have hg : ∀ j, (c.set p (c.getD p 0 + 1)).getD j 0 = if j = p then c.getD j 0 + 1 else c.getD j 0 := fun j => by
            rw [getD_setD (by rw [s2.len]; exact p1)]
            split
            · rename_i e; rw [e]
            · rfl
          refine mem_all.2 ⟨⟨by rw [List.length_set]; exact s2.len, fun j hj => ?_⟩, closed_congr (fun j _ => (hg j).symm) p3⟩
          rw [hg j]
          have h3 := s2.rng j hj
          split
          · rename_i e; subst e; omega
          · exact h3
        obtain ⟨z, z1, z2⟩ := loop_count (B := fun x : Bool × Int => CutSteps_L2 (allTo h st (Pn h), 0) c x.1 x.2) (fun k x => x.2 = (k : Int) ∧ (p < k → x.1 = true)) 6 (fun z => z = true) (x := (false, (0 : Int))) ⟨rfl, fun hx => by omega⟩ (by
          rintro k ⟨a, kk⟩ hk ⟨e1, e2⟩
          dsimp only at e1 e2
          subst e1
          have hr := s2.rng k hk
          have hn : NF h k ≤ 60 := (X.fact.nn k hk).2
          unfold CutSteps_L2
          dsimp only
          rw [if_true' (dec_t (by omega)), ck_in (by omega), ck_in (by omega), letO_def, Int.toNat_natCast, add64 (by omega) (by omega), contains_eq _ _ (by omega), letO_def, ck_in (by intro _; rfl), letO_def, inc64 (by omega)]
          refine ⟨_, rfl, rfl, fun hx => ?_⟩
          dsimp only [Option.getD_some]
          rw [Bool.or_eq_true]
          by_cases e : p = k
          · subst e
            exact .inr (decide_eq_true hin)
          · exact .inl (e2 (by omega))) (by
          rintro ⟨a, kk⟩ ⟨e1, e2⟩
          dsimp only at e1 e2
          subst e1
          unfold CutSteps_L2
          dsimp only
          rw [if_false' (dec_f (by omega))]
          exact ⟨_, rfl, e2 (by omega)⟩)
        rw [bind_of z1, if_false' (by rw [z2]; rfl), hJ]
      · rw [if_false' (by
          rw [Bool.and_eq_false_iff]
          by_cases e : b = true
          · right
            have : c = cntV h h.length := Classical.byContradiction fun hn => hb2 ⟨e, hn⟩
            rw [(eqA6I_iff _ _).2 this]
            rfl
          · left
            cases b <;> simp_all), hJ]
    · rw [bind_of (All_large X (by omega)), if_true' (by rfl)]
      rfl
  · rw [bind_of (All_bad hc), if_true' (by rw [bne_iff_ne]; exact hc)]
    rfl
end Go.Proofs.Ytdahfpfkjljojaa.Ct
