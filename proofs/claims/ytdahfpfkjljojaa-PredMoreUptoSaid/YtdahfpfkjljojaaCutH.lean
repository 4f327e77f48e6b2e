/- Predicates over cuts: the first right cut where it is so. -/
import Derived.Test.YtdahfpfkjljojaaCutG
import Derived.Test.YtdahfpfkjljojaaPure3
open Go Go.Proofs.Ytdahfpfkjljojaa.Sy Go.Proofs.Ytdahfpfkjljojaa.Pu
set_option linter.unusedVariables false
set_option linter.unusedSimpArgs false
namespace Go.Proofs.Ytdahfpfkjljojaa.Ct
open Go.Proofs.Ytdahfpfkjljojaa.Vc (EV dE z6 evp evk evm VectRun cnt cntV chkF withinF maxV minV)
abbrev Z6 : List Int := [(0 : Int), (0 : Int), (0 : Int), (0 : Int), (0 : Int), (0 : Int)]
theorem Z6_at (j : Nat) : Z6.getD j 0 = 0 := by rcases j with _ | _ | _ | _ | _ | _ | j <;> rfl
abbrev row (T : List (List Bool)) (p : Nat) : List Bool := T.getD p []
abbrev tr (T : List (List Bool)) (p k : Nat) : Bool := (row T p).getD k false
structure Truth (h : List EV) (T : List (List Bool)) : Prop where
  len : T.length = 6
  ln : ∀ p, p < 6 → ((row T p).length : Int) = NF h p + 1
def So (T : List (List Bool)) (c : List Int) : Prop := ∀ p, p < 6 → tr T p (c.getD p 0).toNat = true
def bitI (x : Int) (k : Int) : Bool := (arR .and .u64 (arR .shr .u64 x k) (1 : Int)) == (1 : Int)
section
variable {h : List EV} {v : List (List Int)} {st : List (List (List Int))}
theorem zero_valid (X : Cx h v st) : Valid (NF h) Z6 := ⟨rfl, fun j hj => by rw [Z6_at]; exact ⟨Int.le_refl _, (X.fact.nn j hj).1⟩⟩
theorem zero_closed : Closed (SF st) (Z6.getD · 0) := fun p hp h0 => by dsimp only at h0; rw [Z6_at] at h0; omega
theorem truth_ok (X : Cx h v st) (of : List Int) : ∃ T, anyTruth h of = some T ∧ Truth h T ∧ ∀ p, p < 6 → ∀ k : Nat, (k : Int) ≤ NF h p → tr T p k = bitI (of.getD p 0) (k : Int) := by
  obtain ⟨T, t1, t2⟩ := loop_count (B := fun x : List (List Bool) × Int => anyTruth_L1 of (cntV h h.length) x.1 x.2) (fun k x => x.2 = (k : Int) ∧ x.1.length = k ∧ ∀ p, p < k → ((row x.1 p).length : Int) = NF h p + 1 ∧ ∀ i : Nat, (i : Int) ≤ NF h p → tr x.1 p i = bitI (of.getD p 0) (i : Int)) 6 (fun T => T.length = 6 ∧ ∀ p, p < 6 → ((row T p).length : Int) = NF h p + 1 ∧ ∀ i : Nat, (i : Int) ≤ NF h p → tr T p i = bitI (of.getD p 0) (i : Int)) (x := (([] : List (List Bool)), (0 : Int))) ⟨rfl, rfl, fun p hp => by omega⟩ (by
    rintro k ⟨o, kk⟩ hk ⟨e1, e2, e3⟩
    dsimp only at e1 e2 e3
    subst e1
    have hn : 0 ≤ cnt h (k : Int) h.length ∧ cnt h (k : Int) h.length ≤ 60 := X.fact.nn k hk
    unfold anyTruth_L1
    dsimp only
    rw [if_true' (dec_t (by omega)), ck_in (by omega), letO_def, Int.toNat_natCast, Vc.cntV_at hk, letO_def, add64 (by omega) (by omega)]
    obtain ⟨n, hnn⟩ : ∃ n : Nat, cnt h (k : Int) h.length + 1 = (n : Int) := ⟨(cnt h (k : Int) h.length + 1).toNat, by omega⟩
    rw [hnn]
    obtain ⟨l, l1, l2⟩ := loop_count (B := fun x : List Bool × Int => anyTruth_L2 of (k : Int) (n : Int) x.1 x.2) (fun i x => x.2 = (i : Int) ∧ x.1.length = i ∧ ∀ j, j < i → x.1.getD j false = bitI (of.getD k 0) (j : Int)) n (fun l => l.length = n ∧ ∀ j, j < n → l.getD j false = bitI (of.getD k 0) (j : Int)) (x := (([] : List Bool), (0 : Int))) ⟨rfl, rfl, fun j hj => by omega⟩ (by
      rintro i ⟨l, ii⟩ hi ⟨f1, f2, f3⟩
      dsimp only at f1 f2 f3
      subst f1
      unfold anyTruth_L2
      dsimp only
      rw [if_true' (dec_t (by omega)), ck_in (by omega), ck_in (by omega), ck_in (le_maxL (by simp only [List.length_cons, List.length_nil]; omega)), letO_def, inc64 (by omega), Int.toNat_natCast]
      refine ⟨_, rfl, rfl, by simp [f2], fun j hj => ?_⟩
      dsimp only
      rw [getD_app]
      by_cases e : j = l.length
      · rw [if_pos e, e, f2]; rfl
      · rw [if_neg e]; exact f3 j (by omega)) (by
      rintro ⟨l, ii⟩ ⟨f1, f2, f3⟩
      dsimp only at f1 f2 f3
      subst f1
      unfold anyTruth_L2
      dsimp only
      rw [if_false' (dec_f (by omega))]
      exact ⟨_, rfl, f2, f3⟩)
    rw [bind_of l1, ck_in (le_maxL (by simp only [List.length_cons, List.length_nil]; omega)), letO_def, inc64 (by omega)]
    refine ⟨_, rfl, rfl, by simp [e2], fun p hp => ?_⟩
    dsimp only [row, tr]
    rw [getD_app]
    by_cases e : p = o.length
    · rw [if_pos e, e, e2]
      refine ⟨by show _ = cnt h (k : Int) h.length + 1; rw [l2.1]; omega, fun i hi => l2.2 i ?_⟩
      have hi' : (i : Int) ≤ cnt h (k : Int) h.length := hi
      omega
    · rw [if_neg e]; exact e3 p (by omega)) (by
    rintro ⟨o, kk⟩ ⟨e1, e2, e3⟩
    dsimp only at e1 e2 e3
    subst e1
    unfold anyTruth_L1
    dsimp only
    rw [if_false' (dec_f (by omega))]
    exact ⟨_, rfl, e2, e3⟩)
  refine ⟨T, ?_, ⟨t2.1, fun p hp => (t2.2 p hp).1⟩, fun p hp => (t2.2 p hp).2⟩
  unfold anyTruth
  rw [bind_of (rsizes_eq X.good), bind_of t1]
theorem so_ok (X : Cx h v st) {T : List (List Bool)} (hT : Truth h T) {c : List Int} (hc : Valid (NF h) c) : ∃ b, R_So T c = some b ∧ pred_holds T c = some b ∧ (b = true ↔ So T c) := by
  have key : ∀ (B : Int → Option (Int ⊕ (Unit ⊕ Bool))), (∀ k : Nat, k < 6 → B (k : Int) = if (!(tr T k (c.getD k 0).toNat)) = true then some (.inr (.inr false)) else some (.inl ((k + 1 : Nat) : Int))) → B ((6 : Nat) : Int) = some (.inr (.inl ())) → ∃ z, loopO B (0 : Int) = some z ∧ ((z = .inl () ∧ So T c) ∨ (z = .inr false ∧ ¬ So T c)) := by
    intro B h1 h2
    refine loop_countE (fun k x => x = (k : Int) ∧ ∀ p, p < k → tr T p (c.getD p 0).toNat = true) 6 _ ⟨rfl, fun p hp => by omega⟩ ?_ ?_
    · rintro k x hk ⟨rfl, e⟩
      rw [h1 k hk]
      by_cases hb : tr T k (c.getD k 0).toNat = true
      · rw [if_neg (by rw [hb]; simp)]
        refine .inl ⟨_, rfl, rfl, fun p hp => ?_⟩
        by_cases ep : p = k
        · rw [ep]; exact hb
        · exact e p (by omega)
      · rw [if_pos (by rw [Bool.not_eq_true'] ; exact Bool.eq_false_iff.2 hb)]
        exact .inr ⟨_, rfl, .inr ⟨rfl, fun hs => hb (hs k hk)⟩⟩
    · rintro x ⟨rfl, e⟩
      rw [h2]
      exact ⟨_, rfl, .inl ⟨rfl, e⟩⟩
  have hl := hT.len
  obtain ⟨z, z1, z2⟩ := key (fun x : Int => R_So_L1 T c x) (fun k hk => by
    have hr := hc.rng k hk
    have hln : (((T.getD k []).length : Nat) : Int) = NF h k + 1 := hT.ln k hk
    unfold R_So_L1
    rw [if_true' (dec_t (by omega)), ck_in (by omega), letO_def, ck_in (by omega), Int.toNat_natCast, ck_in (by omega), inc64 (by omega)]) (by
    unfold R_So_L1
    rw [if_false' (dec_f (by omega))])
  obtain ⟨y, y1, y2⟩ := key (fun x : Int => pred_holds_L1 T c (T.length : Int) x) (fun k hk => by
    have hr := hc.rng k hk
    have hln : (((T.getD k []).length : Nat) : Int) = NF h k + 1 := hT.ln k hk
    unfold pred_holds_L1
    rw [if_true' (dec_t (by omega)), ck_in (by omega), letO_def, ck_in (by omega), Int.toNat_natCast, ck_in (by omega), inc64 (by omega)]) (by
    unfold pred_holds_L1
    rw [if_false' (dec_f (by omega))])
  unfold R_So pred_holds
  rcases z2 with ⟨rfl, z2⟩ | ⟨rfl, z2⟩ <;> rcases y2 with ⟨rfl, y2⟩ | ⟨rfl, y2⟩
  · exact ⟨true, by rw [bindE_inl z1], by rw [letO_def, bindE_inl y1], fun _ => z2, fun _ => rfl⟩
  · exact absurd z2 y2
  · exact absurd y2 z2
  · exact ⟨false, by rw [bindE_inr z1], by rw [letO_def, bindE_inr y1], (fun hx => by cases hx), fun hx => absurd hx z2⟩
theorem psizes_eq (hg : Vc.Good h) : pred_sizes h = some (cntV h h.length) := sizes_eq hg
theorem pcheck_ok (X : Cx h v st) {T : List (List Bool)} (hT : Truth h T) : pred_Check h T = some 0 := by
  have hl := hT.len
  unfold pred_Check
  rw [bind_of (check_ok X (zero_valid X)), if_false' (by rfl), if_false' (by rw [hl]; rfl), bind_of (psizes_eq X.good), letO_def]
  rw [bindE_inl (all_loop (l := T) (d := ([] : List Bool)) (e := Sum.inl ()) (B := fun x : Int => pred_Check_L1 T (cntV h h.length) (T.length : Int) x) (fun k hk => by
    have hln : ((row T k).length : Int) = cnt h (k : Int) h.length + 1 := hT.ln k (by omega)
    have hn : 0 ≤ cnt h (k : Int) h.length ∧ cnt h (k : Int) h.length ≤ 60 := X.fact.nn k (by omega)
    unfold pred_Check_L1
    rw [if_true' (dec_t (by omega)), ck_in (by omega), letO_def, ck_in (by omega), Int.toNat_natCast, Vc.cntV_at (by omega), add64 (by omega) (by omega), if_false' (by rw [bne_eq_false_iff_eq]; exact hln), inc64 (by omega)]) (by
    unfold pred_Check_L1
    rw [if_false' (dec_f (by omega))]))]
/-- One process goes on to where it is so. -/
theorem first_L3 {p : Nat} (hp : p < 6) {l : List Bool} (hll : l.length ≤ 1000) {c : List Int} (hl : c.length = 6) (h0 : 0 ≤ c.getD p 0) (h1 : c.getD p 0 ≤ l.length) :
    ∃ q, loopO (fun x : List Int => pred_First_L3 (p : Int) l x) c = some q ∧ q.length = 6 ∧ (∀ j, j ≠ p → q.getD j 0 = c.getD j 0) ∧ c.getD p 0 ≤ q.getD p 0 ∧ q.getD p 0 ≤ l.length ∧ (q.getD p 0 < l.length → l.getD (q.getD p 0).toNat false = true) ∧ ∀ k : Nat, c.getD p 0 ≤ k → (k : Int) < q.getD p 0 → l.getD k false = false := by
  refine loop_meas (B := fun x : List Int => pred_First_L3 (p : Int) l x) (fun q => q.length = 6 ∧ (∀ j, j ≠ p → q.getD j 0 = c.getD j 0) ∧ c.getD p 0 ≤ q.getD p 0 ∧ q.getD p 0 ≤ l.length ∧ ∀ k : Nat, c.getD p 0 ≤ k → (k : Int) < q.getD p 0 → l.getD k false = false) (fun q => ((l.length : Int) - q.getD p 0).toNat) _ ?_ _ c rfl ⟨hl, fun j hj => rfl, Int.le_refl _, h1, fun k a b => by omega⟩
  rintro q ⟨q1, q2, q3, q4, q5⟩
  unfold pred_First_L3
  rw [ck_in (by omega), Int.toNat_natCast, ck_in (by intro _; omega), ck_in (by intro hx; have := of_decide_eq_true hx; omega)]
  by_cases e1 : q.getD p 0 < (l.length : Int)
  · by_cases e2 : l.getD (q.getD p 0).toNat false = true
    · rw [if_false' (by rw [e2]; simp)]
      exact .inr ⟨_, rfl, q1, q2, q3, q4, fun _ => e2, q5⟩
    · have e3 : l.getD (q.getD p 0).toNat false = false := Bool.eq_false_iff.2 e2
      have hg : ∀ j, (q.set p (q.getD p 0 + 1)).getD j 0 = if j = p then q.getD p 0 + 1 else q.getD j 0 := fun j => getD_setD (by omega)
      rw [if_true' (by rw [Bool.and_eq_true]; exact ⟨dec_t e1, by rw [e3]; rfl⟩), ck_in (by omega), ck_in (by omega), add64 (by omega) (by omega)]
      refine .inl ⟨_, rfl, ⟨by rw [List.length_set]; exact q1, fun j hj => by rw [hg, if_neg hj]; exact q2 j hj, by rw [hg, if_pos rfl]; omega, by rw [hg, if_pos rfl]; omega, fun k a b => ?_⟩, by rw [hg, if_pos rfl]; omega⟩
      rw [hg, if_pos rfl] at b
      by_cases e4 : (k : Int) = q.getD p 0
      · rw [← e4, Int.toNat_natCast] at e3; exact e3
      · exact q5 k a (by omega)
  · rw [if_false' (by rw [Bool.and_eq_false_iff]; left; exact dec_f e1)]
    exact .inr ⟨_, rfl, q1, q2, q3, q4, fun hx => absurd hx e1, q5⟩
structure Next (T : List (List Bool)) (c q : List Int) (k : Nat) : Prop where
  len : q.length = 6
  don : ∀ p, p < k → c.getD p 0 ≤ q.getD p 0 ∧ q.getD p 0 < ((row T p).length : Int) ∧ tr T p (q.getD p 0).toNat = true ∧ ∀ i : Nat, c.getD p 0 ≤ i → (i : Int) < q.getD p 0 → tr T p i = false
  rst : ∀ p, k ≤ p → q.getD p 0 = c.getD p 0
theorem first_L2 (X : Cx h v st) {T : List (List Bool)} (hT : Truth h T) {c : List Int} (hc : Valid (NF h) c) :
    ∃ z, loopO (fun x : List Int × Int => pred_First_L2 T (T.length : Int) x.1 x.2) (c, (0 : Int)) = some z ∧ ((∃ q, z = .inl q ∧ Next T c q 6) ∨ (z = .inr (.inr (Z6, 6)) ∧ ∃ p, p < 6 ∧ ∀ i : Nat, c.getD p 0 ≤ i → (i : Int) ≤ NF h p → tr T p i = false)) := by
  have hl := hT.len
  refine loop_countE (fun k x => x.2 = (k : Int) ∧ Next T c x.1 k) 6 _ ⟨rfl, hc.len, fun p hp => by omega, fun p _ => rfl⟩ ?_ ?_
  · rintro k ⟨q, kk⟩ hk ⟨e1, e2⟩
    dsimp only at e1 e2
    subst e1
    have hr := hc.rng k hk
    have hln := hT.ln k hk
    have hn := X.fact.nn k hk
    have hn' : 0 ≤ NF h k ∧ NF h k ≤ 60 := hn
    have hqk := e2.rst k (Nat.le_refl _)
    obtain ⟨q', f1, f2, f3, f4, f5, f6, f7⟩ := first_L3 hk (l := row T k) (by omega) e2.len (by omega) (by omega)
    unfold pred_First_L2
    dsimp only
    rw [if_true' (dec_t (by omega)), ck_in (by omega), letO_def, Int.toNat_natCast, bind_of f1, ck_in (by omega)]
    by_cases e3 : q'.getD k 0 = ((row T k).length : Int)
    · rw [if_true' (by rw [beq_iff_eq]; exact e3)]
      exact .inr ⟨_, rfl, .inr ⟨rfl, k, hk, fun i a b => f7 i (by omega) (by omega)⟩⟩
    · rw [if_false' (by rw [beq_eq_false_iff_ne]; exact e3), inc64 (by omega)]
      refine .inl ⟨_, rfl, rfl, f2, fun p hp => ?_, fun p hp => ?_⟩
      · dsimp only
        by_cases e4 : p = k
        · subst e4
          exact ⟨by omega, by omega, f6 (by omega), fun i a b => f7 i (by omega) b⟩
        · rw [f3 p e4]; exact e2.don p (by omega)
      · dsimp only
        rw [f3 p (by omega)]; exact e2.rst p (by omega)
  · rintro ⟨q, kk⟩ ⟨e1, e2⟩
    dsimp only at e1 e2
    subst e1
    unfold pred_First_L2
    dsimp only
    rw [if_false' (dec_f (by omega))]
    exact ⟨_, rfl, .inl ⟨q, rfl, e2⟩⟩
abbrev Le6 (c d : List Int) : Prop := ∀ j, j < 6 → c.getD j 0 ≤ d.getD j 0
abbrev Fit (h : List EV) (st : List (List (List Int))) (T : List (List Bool)) (d : List Int) : Prop := Valid (NF h) d ∧ Closed (SF st) (d.getD · 0) ∧ So T d
def sum6 (f : Nat → Int) : Int := f 0 + f 1 + f 2 + f 3 + f 4 + f 5
theorem sum6_le {f g : Nat → Int} (h : ∀ j, j < 6 → f j ≤ g j) : sum6 f ≤ sum6 g := by
  have h0 := h 0 (by omega); have h1 := h 1 (by omega); have h2 := h 2 (by omega); have h3 := h 3 (by omega); have h4 := h 4 (by omega); have h5 := h 5 (by omega)
  unfold sum6; omega
theorem sum6_eq {f g : Nat → Int} (h : ∀ j, j < 6 → f j ≤ g j) (e : sum6 f = sum6 g) : ∀ j, j < 6 → f j = g j := by
  have h0 := h 0 (by omega); have h1 := h 1 (by omega); have h2 := h 2 (by omega); have h3 := h 3 (by omega); have h4 := h 4 (by omega); have h5 := h 5 (by omega)
  unfold sum6 at e
  intro j hj
  rcases (by omega : j = 0 ∨ j = 1 ∨ j = 2 ∨ j = 3 ∨ j = 4 ∨ j = 5) with rfl | rfl | rfl | rfl | rfl | rfl <;> omega
theorem First_ok (X : Cx h v st) {T : List (List Bool)} (hT : Truth h T) : (∃ c, pred_First h T = some (c, 0) ∧ Fit h st T c ∧ ∀ d, Fit h st T d → Le6 c d) ∨ (pred_First h T = some (Z6, 6) ∧ ¬ ∃ d, Fit h st T d) := by
  have hz : List.replicate 6 (0 : Int) = Z6 := rfl
  obtain ⟨z, z1, z2⟩ := loop_meas (B := fun x : List Int => pred_First_L1 h T x) (fun c => Valid (NF h) c ∧ Closed (SF st) (c.getD · 0) ∧ ∀ d, Fit h st T d → Le6 c d) (fun c => (sum6 (NF h) - sum6 (c.getD · 0)).toNat) (fun z => (∃ c, z = (c, 0) ∧ Fit h st T c ∧ ∀ d, Fit h st T d → Le6 c d) ∨ (z = (Z6, 6) ∧ ¬ ∃ d, Fit h st T d)) (by
    rintro c ⟨c1, c2, c3⟩
    unfold pred_First_L1
    rw [letO_def]
    obtain ⟨z, z1, z2⟩ := first_L2 X hT c1
    rcases z2 with ⟨q, rfl, z2⟩ | ⟨rfl, p, p1, p2⟩
    · rw [bindE_inl z1]
      have hq : Valid (NF h) q := ⟨z2.len, fun j hj => by
        have a := z2.don j hj
        have b := hT.ln j hj
        have c := c1.rng j hj
        omega⟩
      obtain ⟨g, g1, g2, g3, g4, g5⟩ := Grow_ok X hq
      have hge : ∀ j, j < 6 → q.getD j 0 ≤ g.getD j 0 := fun j hj => by rw [g5 j hj]; exact gk_ge (c := (q.getD · 0)) 6
      have hcq : ∀ j, j < 6 → c.getD j 0 ≤ q.getD j 0 := fun j hj => (z2.don j hj).1
      rw [bind_of g2]
      dsimp only
      by_cases e : g = c
      · have eq : ∀ j, j < 6 → q.getD j 0 = c.getD j 0 := fun j hj => by
          have a := hge j hj
          have b := hcq j hj
          rw [e] at a
          omega
        have hso : So T c := fun p hp => by rw [← eq p hp]; exact (z2.don p hp).2.2.1
        obtain ⟨b, _, b1, b2⟩ := so_ok X hT c1
        rw [if_true' ((eqA6I_iff _ _).2 e), bind_of b1, if_true' (b2.2 hso)]
        exact .inr ⟨_, rfl, .inl ⟨c, rfl, ⟨c1, c2, hso⟩, c3⟩⟩
      · rw [if_false' (by cases hx : eqA6I g c with | true => exact absurd ((eqA6I_iff _ _).1 hx) e | false => rfl)]
        refine .inl ⟨g, rfl, ⟨g3, g4, fun d hd j hj => ?_⟩, ?_⟩
        · have hqd : ∀ j, j < 6 → q.getD j 0 ≤ d.getD j 0 := fun j hj => by
            refine Classical.byContradiction fun hn => ?_
            have a := (z2.don j hj).2.2.2 (d.getD j 0).toNat (by have := c3 d hd j hj; have := (c1.rng j hj).1; omega) (by have := (hd.1.rng j hj).1; omega)
            rw [hd.2.2 j hj] at a
            cases a
          rw [g5 j hj, ← gk_fix hd.2.1 hj]
          exact gk_mono X.fact (fun j hj => (hd.1.rng j hj).2) hqd hj
        · have h1 : ∀ j, j < 6 → c.getD j 0 ≤ g.getD j 0 := fun j hj => Int.le_trans (hcq j hj) (hge j hj)
          have h2 := sum6_le (f := (c.getD · 0)) (g := (g.getD · 0)) h1
          have h3 := sum6_le (f := (g.getD · 0)) (g := NF h) (fun j hj => (g3.rng j hj).2)
          have h4 : sum6 (c.getD · 0) ≠ sum6 (g.getD · 0) := fun e' => e (ext_getD 0 (g3.len.trans c1.len.symm) fun j hj => (sum6_eq h1 e' j (by rw [g3.len] at hj; exact hj)).symm)
          omega
    · rw [bindE_inr z1]
      refine .inr ⟨_, rfl, .inr ⟨rfl, ?_⟩⟩
      rintro ⟨d, hd⟩
      have a := p2 (d.getD p 0).toNat (by have := c3 d hd p p1; have := (c1.rng p p1).1; omega) (by have := hd.1.rng p p1; omega)
      rw [hd.2.2 p p1] at a
      cases a) _ Z6 rfl ⟨zero_valid X, zero_closed, fun d hd j hj => by rw [Z6_at]; exact (hd.1.rng j hj).1⟩
  have hF : pred_First h T = some z := by
    unfold pred_First
    rw [letO_def, bind_of (pcheck_ok X hT), if_false' (by rfl), letO_def, hz]
    exact z1
  rw [hF]
  rcases z2 with ⟨c, rfl, z2⟩ | ⟨rfl, z2⟩
  · exact .inl ⟨c, rfl, z2⟩
  · exact .inr ⟨rfl, z2⟩
end
/-! ### The history of the tests -/
abbrev lateL : List Int := [(2 : Int), (3 : Int), (3 : Int), (3 : Int), (3 : Int), (3 : Int)]
theorem late_eq (h : List EV) : late h = anyTruth h lateL := by
  unfold late
  cases anyTruth h lateL <;> rfl
theorem sent_N : NF sentH 0 = 1 ∧ NF sentH 1 = 1 ∧ NF sentH 2 = 0 ∧ NF sentH 3 = 0 ∧ NF sentH 4 = 0 ∧ NF sentH 5 = 0 := by decide +kernel
theorem late_bits : bitI 2 0 = false ∧ bitI 2 1 = true ∧ bitI 3 0 = true ∧ bitI 3 1 = true ∧ bitI 1 0 = true := by decide +kernel
theorem sent_so {T : List (List Bool)} (ht : ∀ p, p < 6 → ∀ k : Nat, (k : Int) ≤ NF sentH p → tr T p k = bitI (lateL.getD p 0) (k : Int)) {c : List Int} (hc : Valid (NF sentH) c) : So T c ↔ c.getD 0 0 = 1 := by
  obtain ⟨n0, n1, n2, n3, n4, n5⟩ := sent_N
  obtain ⟨b1, b2, b3, b4, _⟩ := late_bits
  have r0 := hc.rng 0 (by omega)
  rw [n0] at r0
  constructor
  · intro hs
    have := hs 0 (by omega)
    rw [ht 0 (by omega) _ (by omega)] at this
    by_cases e : c.getD 0 0 = 0
    · rw [e] at this
      have h2 : bitI 2 0 = true := this
      rw [b1] at h2; cases h2
    · omega
  · intro e p hp
    have r := hc.rng p hp
    rw [ht p hp _ (by omega)]
    rcases (by omega : p = 0 ∨ p = 1 ∨ p = 2 ∨ p = 3 ∨ p = 4 ∨ p = 5) with rfl | rfl | rfl | rfl | rfl | rfl
    · rw [e]; exact b2
    · rw [n1] at r
      rcases (by omega : c.getD 1 0 = 0 ∨ c.getD 1 0 = 1) with e1 | e1 <;> rw [e1]
      · exact b3
      · exact b4
    · rw [n2] at r; rw [show c.getD 2 0 = 0 by omega]; exact b3
    · rw [n3] at r; rw [show c.getD 3 0 = 0 by omega]; exact b3
    · rw [n4] at r; rw [show c.getD 4 0 = 0 by omega]; exact b3
    · rw [n5] at r; rw [show c.getD 5 0 = 0 by omega]; exact b3
theorem sent_first : ∃ T, late sentH = some T ∧ pred_First sentH T = some ([(1 : Int), (0 : Int), (0 : Int), (0 : Int), (0 : Int), (0 : Int)], 0) := by
  obtain ⟨v, st, X⟩ := cx_of (h := sentH) (by decide +kernel)
  obtain ⟨T, t1, t2, t3⟩ := truth_ok X lateL
  have v1 : Valid (NF sentH) [(1 : Int), (0 : Int), (0 : Int), (0 : Int), (0 : Int), (0 : Int)] := sent_valid (by omega) (by omega)
  have c1 : cntV sentH 1 = [(1 : Int), (0 : Int), (0 : Int), (0 : Int), (0 : Int), (0 : Int)] := by decide +kernel
  have k1 := closed_cntV X 1 (by decide)
  rw [c1] at k1
  have f1 : Fit sentH st T [(1 : Int), (0 : Int), (0 : Int), (0 : Int), (0 : Int), (0 : Int)] := ⟨v1, k1, (sent_so t3 v1).2 rfl⟩
  refine ⟨T, by rw [late_eq]; exact t1, ?_⟩
  rcases First_ok X t2 with ⟨c, e1, e2, e3⟩ | ⟨_, e2⟩
  · rw [e1]
    have e4 := e3 _ f1
    have e5 := (sent_so t3 e2.1).1 e2.2.2
    congr 2
    refine ext_getD 0 e2.1.len fun j hj => ?_
    rw [e2.1.len] at hj
    have a := e4 j hj
    have b := (e2.1.rng j hj).1
    rcases (by omega : j = 0 ∨ j = 1 ∨ j = 2 ∨ j = 3 ∨ j = 4 ∨ j = 5) with rfl | rfl | rfl | rfl | rfl | rfl
    · exact e5
    all_goals exact Int.le_antisymm a b
  · exact absurd ⟨_, f1⟩ e2
theorem first_law (h : List EV) (of t : List Int) (ht : t.length = 6) : PredFirst h of t = some true := by
  unfold PredFirst
  obtain ⟨T0, a1, a2⟩ := sent_first
  rw [show sent = some sentH from rfl, bind_of rfl, bind_of rfl, bind_of a1, bind_of a2, if_false' (by rw [(eqA6I_iff _ _).2 rfl]; rfl), bind_of (chk_eq h)]
  by_cases hc : chkF h = 0
  · obtain ⟨v, st, X⟩ := cx_of hc
    obtain ⟨T, t1, t2, t3⟩ := truth_ok X of
    obtain ⟨c, s1, s2⟩ := some_ok X ht
    obtain ⟨b, b1, b2⟩ := Right_ok X s2
    obtain ⟨d, d1, _, d2⟩ := so_ok X t2 s2
    rw [if_false' (by rw [hc]; rfl), bind_of t1]
    have hfit : (b && d) = true ↔ Fit h st T c := by
      rw [Bool.and_eq_true, b2, d2]
      exact ⟨fun x => ⟨s2, x.1, x.2⟩, fun x => ⟨x.2.1, x.2.2⟩⟩
    rcases First_ok X t2 with ⟨e, e1, e2, e3⟩ | ⟨e1, e2⟩
    · obtain ⟨f, f1, _, f2⟩ := so_ok X t2 e2.1
      have hf := f2.2 e2.2.2
      subst hf
      rw [bind_of e1, bind_of s1, bind_of b1]
      dsimp only
      rw [d1, letO_def, ck_in (by intro _; rfl), letO_def, if_false' (by rfl), bind_of (Right_t X e2.1 e2.2.1)]
      dsimp only
      rw [f1, letO_def, ck_in (by intro _; rfl), within_eq, letO_def, ck_in (by intro _ _; rfl)]
      simp only [Option.getD_some]
      cases hbd : (b && d) with
      | false => rfl
      | true =>
        have := Vc.within_iff.2 (e3 c (hfit.1 hbd))
        rw [this]
        rfl
    · rw [bind_of e1, bind_of s1, bind_of b1]
      dsimp only
      rw [d1, letO_def, ck_in (by intro _; rfl), letO_def, if_true' (by rfl)]
      simp only [Option.getD_some]
      have : (b && d) = false := Bool.eq_false_iff.2 fun hx => e2 ⟨c, hfit.1 hx⟩
      rw [this, (eqA6I_iff _ _).2 rfl]
      rfl
  · rw [if_true' (by rw [bne_iff_ne]; exact hc)]
end Go.Proofs.Ytdahfpfkjljojaa.Ct
