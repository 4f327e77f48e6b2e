/- Cuts: Shrink, and the law CutShrinks. -/
import Derived.Test.YtdahfpfkjljojaaCutC
open Go Go.Proofs.Ytdahfpfkjljojaa.Sy Go.Proofs.Ytdahfpfkjljojaa.Pu
set_option linter.unusedVariables false
set_option linter.unusedSimpArgs false
namespace Go.Proofs.Ytdahfpfkjljojaa.Ct
open Go.Proofs.Ytdahfpfkjljojaa.Vc (EV dE z6 evp evk evm VectRun cnt cntV chkF withinF maxV minV)
structure FP (S : Nat → Int → Nat → Int) (c : Nat → Int) (p : Nat) (f : Int) : Prop where
  nn : 0 ≤ f
  le : f ≤ c p
  in_ : 0 < f → ∀ j, j < 6 → S p f j ≤ c j
  top : ∀ m, f < m → m ≤ c p → ∃ j, j < 6 ∧ c j < S p m j
section
variable {h : List EV} {v : List (List Int)} {st : List (List (List Int))}
theorem shr_L2 (X : Cx h v st) {c : List Int} (hc : Valid (NF h) c) {p : Nat} (hp : p < 6) {o : List Int} (ho : o.length = 6) (hop : o.getD p 0 = c.getD p 0) :
    ∃ o', loopO (fun x : List Int => cut_Shrink_L2 c st (p : Int) x) o = some o' ∧ o'.length = 6 ∧ (∀ j, j ≠ p → o'.getD j 0 = o.getD j 0) ∧ FP (SF st) (c.getD · 0) p (o'.getD p 0) := by
  have hr : 0 ≤ c.getD p 0 ∧ c.getD p 0 ≤ cnt h (p : Int) h.length := hc.rng p hp
  have hn : cnt h (p : Int) h.length ≤ 60 := (X.fact.nn p hp).2
  have hln := X.s.ln p hp
  refine loop_countE (B := fun x : List Int => cut_Shrink_L2 c st (p : Int) x) (fun r x => x.length = 6 ∧ x.getD p 0 = c.getD p 0 - r ∧ (∀ j, j ≠ p → x.getD j 0 = o.getD j 0) ∧ ∀ m, c.getD p 0 - r < m → m ≤ c.getD p 0 → ∃ j, j < 6 ∧ c.getD j 0 < SF st p m j) (c.getD p 0).toNat (fun o' => o'.length = 6 ∧ (∀ j, j ≠ p → o'.getD j 0 = o.getD j 0) ∧ FP (SF st) (c.getD · 0) p (o'.getD p 0)) (x := o) ⟨ho, by omega, fun j _ => rfl, fun m h1 h2 => by omega⟩ ?_ ?_
  · rintro r x hrn ⟨e1, e2, e3, e4⟩
    have hd : decide (x.getD p 0 > 0) = true := dec_t (by omega)
    have es : arR .sub .i64 (x.getD p 0) 1 = x.getD p 0 - 1 := sub64 (by omega) (by omega)
    have cp : 0 ≤ (p : Int) ∧ (p : Int) < 6 := by omega
    unfold cut_Shrink_L2
    simp only [Int.toNat_natCast]
    rw [es, ck_in cp, ck_in (fun _ => cp), ck_in (fun _ => cp), ck_in (fun _ => by omega), within_eq, letO_def, ck_in (fun _ => by rfl), hd]
    simp only [Option.getD_some]
    by_cases w : withinF ((st.getD p []).getD (x.getD p 0 - 1).toNat z6) c = true
    · right
      rw [if_false' (by rw [w]; rfl)]
      refine ⟨_, rfl, e1, e3, ⟨by omega, ?_, fun _ j hj => ?_, fun m h1 h2 => e4 m (by omega) h2⟩⟩
      · show x.getD p 0 ≤ c.getD p 0
        omega
      · exact Vc.within_iff.1 w j hj
    · left
      rw [if_true' (by rw [Bool.eq_false_iff.2 w]; rfl), ck_in cp, ck_in cp]
      refine ⟨_, rfl, by simpa using e1, ?_, fun j hj => ?_, fun m h1 h2 => ?_⟩
      · rw [getD_setD (by omega), if_pos rfl]
        omega
      · rw [getD_setD (by omega), if_neg hj]
        exact e3 j hj
      · by_cases e : m = x.getD p 0
        · have := mt Vc.within_iff.2 w
          obtain ⟨j, hj⟩ := Classical.not_forall.1 this
          obtain ⟨j1, j2⟩ := Classical.not_imp.1 hj
          refine ⟨j, j1, ?_⟩
          rw [e]
          show c.getD j 0 < ((st.getD p []).getD (x.getD p 0 - 1).toNat z6).getD j 0
          omega
        · exact e4 m (by omega) h2
  · rintro x ⟨e1, e2, e3, e4⟩
    have hx0 : x.getD p 0 = 0 := by omega
    have hd : decide (x.getD p 0 > 0) = false := dec_f (by omega)
    have cp : 0 ≤ (p : Int) ∧ (p : Int) < 6 := by omega
    unfold cut_Shrink_L2
    simp only [Int.toNat_natCast]
    rw [ck_in cp, ck_in (fun _ => cp), ck_in (fun _ => cp), ck_in (fun h => by rw [hd] at h; cases h), within_eq, letO_def, ck_in (fun _ => by rfl), hd, if_false' (by rfl)]
    refine ⟨_, rfl, e1, e3, ⟨by omega, ?_, fun h0 => by omega, fun m h1 h2 => e4 m (by omega) h2⟩⟩
    show x.getD p 0 ≤ c.getD p 0
    omega
theorem shrink_ok (X : Cx h v st) {c : List Int} (hc : Valid (NF h) c) : ∃ f, cut_Shrink h c = some (f, 0) ∧ f.length = 6 ∧ ∀ p, p < 6 → FP (SF st) (c.getD · 0) p (f.getD p 0) := by
  obtain ⟨f, f1, f2, f3⟩ := loop_count (B := fun x : List Int × Int => cut_Shrink_L1 c st x.1 x.2) (fun k x => x.2 = (k : Int) ∧ x.1.length = 6 ∧ (∀ p, p < k → FP (SF st) (c.getD · 0) p (x.1.getD p 0)) ∧ ∀ p, k ≤ p → x.1.getD p 0 = c.getD p 0) 6 (fun f => f.length = 6 ∧ ∀ p, p < 6 → FP (SF st) (c.getD · 0) p (f.getD p 0)) (x := (c, (0 : Int))) ⟨rfl, hc.len, fun p hp => by omega, fun p _ => rfl⟩ (by
    rintro k ⟨o, kk⟩ hk ⟨e1, e2, e3, e4⟩
    dsimp only at e1 e2 e3 e4
    subst e1
    obtain ⟨o', o1, o2, o3, o4⟩ := shr_L2 X hc hk e2 (e4 k (Nat.le_refl k))
    unfold cut_Shrink_L1
    dsimp only
    rw [if_true' (dec_t (by omega)), bind_of o1, inc64 (by omega)]
    refine ⟨_, rfl, rfl, o2, fun p hp => ?_, fun p hp => ?_⟩
    · by_cases e : p = k
      · rw [e]; exact o4
      · dsimp only
        rw [o3 p e]; exact e3 p (by omega)
    · dsimp only
      rw [o3 p (by omega)]; exact e4 p (by omega)) (by
    rintro ⟨o, kk⟩ ⟨e1, e2, e3, e4⟩
    dsimp only at e1 e2 e3 e4
    subst e1
    unfold cut_Shrink_L1
    dsimp only
    rw [if_false' (dec_f (by omega))]
    exact ⟨_, rfl, e2, e3⟩)
  refine ⟨f, ?_, f2, f3⟩
  unfold cut_Shrink
  rw [letO_def, bind_of (check_ok X hc), if_false' (by rfl), bind_of X.story, bind_of f1]
theorem shrink_valid (X : Cx h v st) {c f : List Int} (hc : Valid (NF h) c) (hl : f.length = 6) (hf : ∀ p, p < 6 → FP (SF st) (c.getD · 0) p (f.getD p 0)) : Valid (NF h) f :=
  ⟨hl, fun j hj => ⟨(hf j hj).nn, Int.le_trans (hf j hj).le (hc.rng j hj).2⟩⟩
theorem shrink_closed (X : Cx h v st) {c f : List Int} (hc : Valid (NF h) c) (hl : f.length = 6) (hf : ∀ p, p < 6 → FP (SF st) (c.getD · 0) p (f.getD p 0)) : Closed (SF st) (f.getD · 0) := by
  have vf := shrink_valid X hc hl hf
  intro p hp h0 j hj
  dsimp only at h0 ⊢
  have h1 := (hf p hp).in_ h0
  have h2 := (hf j hj).nn
  by_cases hm : 1 ≤ SF st p (f.getD p 0) j
  · refine Classical.byContradiction fun hn => ?_
    obtain ⟨i, i1, i2⟩ := (hf j hj).top (SF st p (f.getD p 0) j) (by omega) (h1 j hj)
    have h3 := X.fact.trans p (f.getD p 0) j i hp hj i1 (by omega) (vf.rng p hp).2 hm
    have h4 := h1 i i1
    omega
  · omega
theorem shrink_fix (X : Cx h v st) {f : List Int} (vf : Valid (NF h) f) (hcl : Closed (SF st) (f.getD · 0)) : cut_Shrink h f = some (f, 0) := by
  obtain ⟨g, g1, g2, g3⟩ := shrink_ok X vf
  rw [g1, ext_getD 0 (g2.trans vf.len.symm) fun p hp => ?_]
  have hp6 : p < 6 := by omega
  have h1 := (g3 p hp6).nn
  have h2 : g.getD p 0 ≤ f.getD p 0 := (g3 p hp6).le
  by_cases e : g.getD p 0 = f.getD p 0
  · exact e
  · exfalso
    obtain ⟨j, j1, j2⟩ := (g3 p hp6).top (f.getD p 0) (by omega) (Int.le_refl _)
    have := hcl p hp6 (by show 0 < f.getD p 0; omega) j j1
    dsimp only at this j2
    omega
end
theorem shrinks_law (h : List EV) (t1 t2 : List Int) (l1 : t1.length = 6) (l2 : t2.length = 6) : CutShrinks h t1 t2 = some true := by
  unfold CutShrinks
  have e1 : cut_Shrink sentH [(0 : Int), (1 : Int), (0 : Int), (0 : Int), (0 : Int), (0 : Int)] = some ([(0 : Int), (0 : Int), (0 : Int), (0 : Int), (0 : Int), (0 : Int)], 0) := by
    obtain ⟨v, st, X, s0, s1⟩ := sent_cx
    obtain ⟨f, f1, f2, f3⟩ := shrink_ok X (sent_valid (a := 0) (b := 1) (by omega) (by omega))
    rw [f1]
    congr 2
    refine ext_getD 0 (by rw [f2]; rfl) fun p hp => ?_
    have hp6 : p < 6 := by omega
    have a := (f3 p hp6).nn
    have b := (f3 p hp6).le
    rcases p with _ | _ | _ | _ | _ | _ | p
    · have a : 0 ≤ f.getD 0 0 := a
      have b : f.getD 0 0 ≤ 0 := b
      show f.getD 0 0 = 0
      omega
    · have a : 0 ≤ f.getD 1 0 := a
      have b : f.getD 1 0 ≤ 1 := b
      show f.getD 1 0 = 0
      by_cases e : f.getD 1 0 = 1
      · exfalso
        have := (f3 1 hp6).in_ (by omega) 0 (by omega)
        have e' : f.getD (0 + 1) 0 = 1 := e
        rw [e', s1 0] at this
        exact absurd this (by decide)
      · omega
    · have a : 0 ≤ f.getD 2 0 := a
      have b : f.getD 2 0 ≤ 0 := b
      show f.getD 2 0 = 0
      omega
    · have a : 0 ≤ f.getD 3 0 := a
      have b : f.getD 3 0 ≤ 0 := b
      show f.getD 3 0 = 0
      omega
    · have a : 0 ≤ f.getD 4 0 := a
      have b : f.getD 4 0 ≤ 0 := b
      show f.getD 4 0 = 0
      omega
    · have a : 0 ≤ f.getD 5 0 := a
      have b : f.getD 5 0 ≤ 0 := b
      show f.getD 5 0 = 0
      omega
    · omega
  obtain ⟨v0, st0, X0, _, hcl0⟩ := sent_grow
  have e2 := shrink_fix X0 (sent_valid (a := 1) (b := 1) (by omega) (by omega)) hcl0
  rw [show sent = some sentH from rfl, bind_of rfl, bind_of e1, if_false' (by rw [(eqA6I_iff _ _).2 rfl]; rfl), bind_of rfl, bind_of e2, if_false' (by rw [(eqA6I_iff _ _).2 rfl]; rfl), bind_of (chk_eq h)]
  by_cases hc : chkF h = 0
  · obtain ⟨v, st, X⟩ := cx_of hc
    rw [hc, if_false' (by rfl)]
    obtain ⟨c, c1, vc⟩ := some_ok X l1
    obtain ⟨d, d1, vd⟩ := some_ok X l2
    obtain ⟨f, f1, f2, f3⟩ := shrink_ok X vc
    have vf := shrink_valid X vc f2 f3
    have cf := shrink_closed X vc f2 f3
    obtain ⟨b, b1, b2⟩ := Right_ok X vd
    rw [bind_of c1, bind_of d1, bind_of f1]
    dsimp only
    rw [bind_of (Right_t X vf cf), bind_of (shrink_fix X vf cf), bind_of b1]
    dsimp only
    have w1 : withinF f c = true := Vc.within_iff.2 fun j hj => (f3 j hj).le
    rw [within_eq, w1, letO_def, ck_in (fun _ => by rfl), within_eq, letO_def, ck_in (fun _ _ => by rfl), within_eq, letO_def, ck_in (fun _ _ => by rfl)]
    simp only [Option.getD_some]
    rw [(eqA6I_iff f f).2 rfl]
    by_cases hb : b = true ∧ withinF d c = true
    · have hcl := b2.1 hb.1
      have hw := Vc.within_iff.1 hb.2
      have : withinF d f = true := by
        rw [Vc.within_iff]
        intro p hp
        refine Classical.byContradiction fun hn => ?_
        have a := (f3 p hp).nn
        obtain ⟨j, j1, j2⟩ := (f3 p hp).top (d.getD p 0) (by omega) (hw p hp)
        have h1 := hcl p hp (by show 0 < d.getD p 0; omega) j j1
        have h2 := hw j j1
        dsimp only at h1 j2
        omega
      rw [this]
      simp
    · have : ((!b) || (!withinF d c)) = true := by
        rw [Bool.or_eq_true]
        by_cases h1 : b = true
        · right
          rw [Bool.eq_false_iff.2 fun h2 => hb ⟨h1, h2⟩]; rfl
        · left; rw [Bool.eq_false_iff.2 h1]; rfl
      rw [this]
      simp
  · rw [if_true' (by simpa using hc)]
end Go.Proofs.Ytdahfpfkjljojaa.Ct
