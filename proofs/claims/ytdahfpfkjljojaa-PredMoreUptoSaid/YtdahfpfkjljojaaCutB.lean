/- Cuts: what the functions return. -/
import Derived.Test.YtdahfpfkjljojaaCutA
open Go Go.Proofs.Ytdahfpfkjljojaa.Sy Go.Proofs.Ytdahfpfkjljojaa.Pu
set_option linter.unusedVariables false
set_option linter.unusedSimpArgs false
namespace Go.Proofs.Ytdahfpfkjljojaa.Ct
open Go.Proofs.Ytdahfpfkjljojaa.Vc (EV dE z6 evp evk evm VectRun cnt cntV chkF withinF maxV minV)
structure Cx (h : List EV) (v : List (List Int)) (st : List (List (List Int))) : Prop where
  chk : chkF h = 0
  good : Vc.Good h
  story : cut_story h = some st
  vec : Vc.vectorsF h = (v, 0)
  s : St h v h.length st
  fact : Story (fun p => cnt h (p : Int) h.length) (SF st)
abbrev NF (h : List EV) : Nat → Int := fun p => cnt h (p : Int) h.length
theorem cx_of {h : List EV} (hc : chkF h = 0) : ∃ v st, Cx h v st := by
  obtain ⟨v, st, h1, h2, h3, h4⟩ := story_ok hc
  exact ⟨v, st, hc, Vc.good_of hc, h1, h2, h4, story_facts hc h3 h4⟩
section
variable {h : List EV} {v : List (List Int)} {st : List (List (List Int))}
theorem check_ok (X : Cx h v st) {c : List Int} (hc : Valid (NF h) c) : cut_Check h c = some 0 := by
  have w1 : withinF [(0 : Int), (0 : Int), (0 : Int), (0 : Int), (0 : Int), (0 : Int)] c = true := by
    rw [Vc.within_iff]
    intro j hj
    have := (hc.rng j hj).1
    rcases j with _ | _ | _ | _ | _ | _ | j <;> first | exact this | omega
  have w2 : withinF c (cntV h h.length) = true := by
    rw [Vc.within_iff]
    intro j hj
    rw [Vc.cntV_at hj]
    exact (hc.rng j hj).2
  unfold cut_Check
  rw [bind_of (chk_eq h), X.chk, if_false' (by rfl), bind_of (within_eq _ _), w1, sizes_eq X.good, letO_def, ck_in (fun _ => by rfl)]
  simp only [Option.getD_some]
  rw [within_eq, w2, letO_def, ck_in (fun _ => by rfl), if_false' (by rfl)]
theorem grow_ok (X : Cx h v st) {c : List Int} (hc : Valid (NF h) c) : ∃ g, cut_grow h c = some g ∧ g.length = 6 ∧ ∀ j, j < 6 → g.getD j 0 = gk (SF st) (c.getD · 0) 6 j := by
  have hcl := hc.len
  obtain ⟨g, g1, g2, g3⟩ := loop_count (B := fun x : List Int × Int => cut_grow_L1 c st x.1 x.2) (fun k x => x.2 = (k : Int) ∧ x.1.length = 6 ∧ ∀ j, j < 6 → x.1.getD j 0 = gk (SF st) (c.getD · 0) k j) 6 (fun g => g.length = 6 ∧ ∀ j, j < 6 → g.getD j 0 = gk (SF st) (c.getD · 0) 6 j) (x := (c, (0 : Int))) ⟨rfl, hcl, fun j _ => rfl⟩ (by
    rintro k ⟨o, kk⟩ hk ⟨e1, e2, e3⟩
    dsimp only at e1 e2 e3
    subst e1
    have hr : 0 ≤ c.getD k 0 ∧ c.getD k 0 ≤ cnt h (k : Int) h.length := hc.rng k hk
    have hln := X.s.ln k hk
    have hn : cnt h (k : Int) h.length ≤ 60 := (X.fact.nn k hk).2
    unfold cut_grow_L1
    dsimp only
    simp only [Int.toNat_natCast]
    rw [if_true' (dec_t (by omega)), ck_in (by omega), letO_def]
    simp only [cut_grow_J2, inc64 (show k < 1000000000000 by omega)]
    by_cases hp : 0 < c.getD k 0
    · rw [if_true' (dec_t hp), ck_in (by omega), sub64 (by omega) (by omega), ck_in (by omega), bind_of (max_eq _ _)]
      refine ⟨_, rfl, rfl, by rw [Vc.maxV_len]; exact e2, fun j hj => ?_⟩
      dsimp only
      rw [Vc.maxV_at e2 hj, e3 j hj]
      show _ = if 0 < c.getD k 0 then mxI (gk (SF st) (c.getD · 0) k j) (SF st k (c.getD k 0) j) else gk (SF st) (c.getD · 0) k j
      rw [if_pos hp]
      rfl
    · rw [if_false' (dec_f hp)]
      refine ⟨_, rfl, rfl, e2, fun j hj => ?_⟩
      dsimp only
      rw [e3 j hj]
      show _ = if 0 < c.getD k 0 then mxI (gk (SF st) (c.getD · 0) k j) (SF st k (c.getD k 0) j) else gk (SF st) (c.getD · 0) k j
      rw [if_neg hp]) (by
    rintro ⟨o, kk⟩ ⟨e1, e2, e3⟩
    dsimp only at e1 e2 e3
    subst e1
    unfold cut_grow_L1
    dsimp only
    rw [if_false' (dec_f (by omega))]
    exact ⟨_, rfl, e2, e3⟩)
  refine ⟨g, ?_, g2, g3⟩
  unfold cut_grow
  rw [letO_def, bind_of X.story, bind_of g1]
/-- Grow's result. -/
theorem Grow_ok (X : Cx h v st) {c : List Int} (hc : Valid (NF h) c) : ∃ g, cut_grow h c = some g ∧ cut_Grow h c = some (g, 0) ∧ Valid (NF h) g ∧ Closed (SF st) (g.getD · 0) ∧ ∀ j, j < 6 → g.getD j 0 = gk (SF st) (c.getD · 0) 6 j := by
  obtain ⟨g, g1, g2, g3⟩ := grow_ok X hc
  refine ⟨g, g1, ?_, ⟨g2, fun j hj => by rw [g3 j hj]; exact gk_valid X.fact hc.rng hj⟩, fun p hp h0 j hj => ?_, g3⟩
  · unfold cut_Grow
    rw [letO_def, bind_of (check_ok X hc), if_false' (by rfl), bind_of g1]
  · dsimp only at h0 ⊢
    rw [g3 p hp] at h0 ⊢
    rw [g3 j hj]
    exact gk_closed X.fact hc.rng p hp h0 j hj
theorem grow_fix (X : Cx h v st) {c : List Int} (hc : Valid (NF h) c) (hcl : Closed (SF st) (c.getD · 0)) : cut_grow h c = some c := by
  obtain ⟨g, g1, g2, g3⟩ := grow_ok X hc
  rw [g1, ext_getD 0 (g2.trans hc.len.symm) fun j hj => (g3 j (by omega)).trans (gk_fix hcl (by omega))]
theorem Right_ok (X : Cx h v st) {c : List Int} (hc : Valid (NF h) c) : ∃ b, cut_Right h c = some (b, 0) ∧ (b = true ↔ Closed (SF st) (c.getD · 0)) := by
  obtain ⟨g, g1, g2, g3⟩ := grow_ok X hc
  refine ⟨eqA6I g c, ?_, ?_⟩
  · unfold cut_Right
    rw [bind_of (check_ok X hc), if_false' (by rfl), bind_of g1]
  · rw [eqA6I_iff]
    constructor
    · rintro rfl
      exact closed_of_fix fun j hj => (g3 j hj).symm
    · intro hcl
      exact ext_getD 0 (g2.trans hc.len.symm) fun j hj => (g3 j (by omega)).trans (gk_fix hcl (by omega))
theorem Right_t (X : Cx h v st) {c : List Int} (hc : Valid (NF h) c) (hcl : Closed (SF st) (c.getD · 0)) : cut_Right h c = some (true, 0) := by
  obtain ⟨b, b1, b2⟩ := Right_ok X hc
  rw [b1, b2.2 hcl]
theorem some_ok (X : Cx h v st) {t : List Int} (ht : t.length = 6) : ∃ c, someCut h t = some c ∧ Valid (NF h) c := by
  obtain ⟨c, c1, c2, c3⟩ := loop_count (B := fun x : List Int × Int => someCut_L1 (cntV h h.length) x.1 x.2) (fun k x => x.2 = (k : Int) ∧ x.1.length = 6 ∧ ∀ j, j < k → 0 ≤ x.1.getD j 0 ∧ x.1.getD j 0 ≤ NF h j) 6 (fun c => c.length = 6 ∧ ∀ j, j < 6 → 0 ≤ c.getD j 0 ∧ c.getD j 0 ≤ NF h j) (x := (t, (0 : Int))) ⟨rfl, ht, fun j hj => by omega⟩ (by
    rintro k ⟨o, kk⟩ hk ⟨e1, e2, e3⟩
    dsimp only at e1 e2 e3
    subst e1
    have hn : 0 ≤ cnt h (k : Int) h.length ∧ cnt h (k : Int) h.length ≤ 60 := X.fact.nn k hk
    unfold someCut_L1
    dsimp only
    simp only [Int.toNat_natCast]
    rw [if_true' (dec_t (by omega)), ck_in (by omega), letO_def, Vc.cntV_at hk, ck_in (by omega), add64 (by omega) (by omega), bind_of (rest_eq _ _ (by omega) (by omega)), ck_in (by omega), letO_def, inc64 (by omega)]
    refine ⟨_, rfl, rfl, by simpa using e2, fun j hj => ?_⟩
    dsimp only
    rw [getD_setD (by omega)]
    by_cases e : j = k
    · subst e
      rw [if_pos rfl]
      have a := Int.emod_nonneg (o.getD j 0) (show cnt h (j : Int) h.length + 1 ≠ 0 by omega)
      have b := Int.emod_lt_of_pos (o.getD j 0) (show 0 < cnt h (j : Int) h.length + 1 by omega)
      exact ⟨a, by show _ ≤ cnt h (j : Int) h.length; omega⟩
    · rw [if_neg e]; exact e3 j (by omega)) (by
    rintro ⟨o, kk⟩ ⟨e1, e2, e3⟩
    dsimp only at e1 e2 e3
    subst e1
    unfold someCut_L1
    dsimp only
    rw [if_false' (dec_f (by omega))]
    exact ⟨_, rfl, e2, e3⟩)
  refine ⟨c, ?_, c2, c3⟩
  unfold someCut
  rw [letO_def, bind_of (rsizes_eq X.good), bind_of c1]
end
/-! ### The history of the tests -/
abbrev sentH : List EV := [((0 : Int), (2 : Int), (0 : Int), ()), ((1 : Int), (3 : Int), (0 : Int), ())]
theorem sent_cx : ∃ v st, Cx sentH v st ∧ (∀ j, SF st 0 1 j = [(1 : Int), 0, 0, 0, 0, 0].getD j 0) ∧ (∀ j, SF st 1 1 j = [(1 : Int), 1, 0, 0, 0, 0].getD j 0) := by
  obtain ⟨v, st, X⟩ := cx_of (h := sentH) (by decide +kernel)
  have e0 : Vc.vectorsF sentH = ([[1, 0, 0, 0, 0, 0], [1, 1, 0, 0, 0, 0]], 0) := by decide +kernel
  have hv : v = [[1, 0, 0, 0, 0, 0], [1, 1, 0, 0, 0, 0]] := by
    have := X.vec
    rw [e0] at this
    exact (Prod.mk.inj this).1.symm
  refine ⟨v, st, X, fun j => ?_, fun j => ?_⟩
  · have := X.s.at_ 0 (by decide)
    unfold SF
    show ((st.getD 0 []).getD 0 z6).getD j 0 = _
    rw [show (st.getD 0 []).getD 0 z6 = v.getD 0 z6 from this, hv]
    rfl
  · have := X.s.at_ 1 (by decide)
    unfold SF
    show ((st.getD 1 []).getD 0 z6).getD j 0 = _
    rw [show (st.getD 1 []).getD 0 z6 = v.getD 1 z6 from this, hv]
    rfl
theorem sent_valid {a b : Int} (ha : 0 ≤ a ∧ a ≤ 1) (hb : 0 ≤ b ∧ b ≤ 1) : Valid (NF sentH) [a, b, 0, 0, 0, 0] := by
  refine ⟨rfl, fun j hj => ?_⟩
  have h0 : NF sentH 0 = 1 := by decide +kernel
  have h1 : NF sentH 1 = 1 := by decide +kernel
  have h2 : NF sentH 2 = 0 := by decide +kernel
  have h3 : NF sentH 3 = 0 := by decide +kernel
  have h4 : NF sentH 4 = 0 := by decide +kernel
  have h5 : NF sentH 5 = 0 := by decide +kernel
  rcases j with _ | _ | _ | _ | _ | _ | j
  · rw [show (0 : Nat) = 0 from rfl, h0]; exact ha
  · show 0 ≤ b ∧ b ≤ NF sentH 1; rw [h1]; exact hb
  · show 0 ≤ (0 : Int) ∧ (0 : Int) ≤ NF sentH 2; rw [h2]; decide
  · show 0 ≤ (0 : Int) ∧ (0 : Int) ≤ NF sentH 3; rw [h3]; decide
  · show 0 ≤ (0 : Int) ∧ (0 : Int) ≤ NF sentH 4; rw [h4]; decide
  · show 0 ≤ (0 : Int) ∧ (0 : Int) ≤ NF sentH 5; rw [h5]; decide
  · omega
end Go.Proofs.Ytdahfpfkjljojaa.Ct
