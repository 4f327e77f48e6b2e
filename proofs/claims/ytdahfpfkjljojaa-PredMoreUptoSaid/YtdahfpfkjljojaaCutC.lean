/- Cuts: the laws CutGrows, CutMeets. -/
import Derived.Test.YtdahfpfkjljojaaCutB
open Go Go.Proofs.Ytdahfpfkjljojaa.Sy Go.Proofs.Ytdahfpfkjljojaa.Pu
set_option linter.unusedVariables false
set_option linter.unusedSimpArgs false
namespace Go.Proofs.Ytdahfpfkjljojaa.Ct
open Go.Proofs.Ytdahfpfkjljojaa.Vc (EV dE z6 evp evk evm VectRun cnt cntV chkF withinF maxV minV)
theorem sent_grow : ∃ v st, Cx sentH v st ∧ cut_grow sentH [(0 : Int), (1 : Int), (0 : Int), (0 : Int), (0 : Int), (0 : Int)] = some [(1 : Int), (1 : Int), (0 : Int), (0 : Int), (0 : Int), (0 : Int)] ∧ Closed (SF st) ([(1 : Int), (1 : Int), (0 : Int), (0 : Int), (0 : Int), (0 : Int)].getD · 0) := by
  obtain ⟨v, st, X, s0, s1⟩ := sent_cx
  obtain ⟨g, g1, g2, g3⟩ := grow_ok X (sent_valid (a := 0) (b := 1) (by omega) (by omega))
  refine ⟨v, st, X, ?_, ?_⟩
  · rw [g1]
    congr 1
    refine ext_getD 0 (by rw [g2]; rfl) fun j hj => ?_
    rw [g3 j (by omega)]
    have : gk (SF st) ([(0 : Int), (1 : Int), (0 : Int), (0 : Int), (0 : Int), (0 : Int)].getD · 0) 6 j = mxI ([(0 : Int), (1 : Int), (0 : Int), (0 : Int), (0 : Int), (0 : Int)].getD j 0) (SF st 1 1 j) := by
      simp [gk]
    rw [this, s1 j]
    rcases j with _ | _ | _ | _ | _ | _ | j
    · decide
    · decide
    · decide
    · decide
    · decide
    · decide
    · omega
  · intro p hp h0 j hj
    rcases p with _ | _ | p
    · show SF st 0 1 j ≤ _
      rw [s0 j]
      rcases j with _ | _ | _ | _ | _ | _ | j
      · decide
      · decide
      · decide
      · decide
      · decide
      · decide
      · omega
    · show SF st 1 1 j ≤ _
      rw [s1 j]
      exact Int.le_refl _
    · exfalso
      rcases p with _ | _ | _ | _ | p
      · exact absurd h0 (by decide)
      · exact absurd h0 (by decide)
      · exact absurd h0 (by decide)
      · exact absurd h0 (by decide)
      · omega
theorem sent_Grow : cut_Grow sentH [(0 : Int), (1 : Int), (0 : Int), (0 : Int), (0 : Int), (0 : Int)] = some ([(1 : Int), (1 : Int), (0 : Int), (0 : Int), (0 : Int), (0 : Int)], 0) := by
  obtain ⟨v, st, X, h1, _⟩ := sent_grow
  unfold cut_Grow
  rw [letO_def, bind_of (check_ok X (sent_valid (a := 0) (b := 1) (by omega) (by omega))), if_false' (by rfl), bind_of h1]
theorem max_valid {h : List EV} {a b : List Int} (ha : Valid (NF h) a) (hb : Valid (NF h) b) : Valid (NF h) (maxV a b) := by
  refine ⟨by rw [Vc.maxV_len]; exact ha.len, fun j hj => ?_⟩
  rw [Vc.maxV_at ha.len hj]
  have h1 := ha.rng j hj
  have h2 := hb.rng j hj
  have := mxI_cases (a.getD j 0) (b.getD j 0)
  omega
theorem min_valid {h : List EV} {a b : List Int} (ha : Valid (NF h) a) (hb : Valid (NF h) b) : Valid (NF h) (minV a b) := by
  refine ⟨by rw [minV_len]; exact ha.len, fun j hj => ?_⟩
  rw [minV_at ha.len hj]
  have h1 := ha.rng j hj
  have h2 := hb.rng j hj
  have := mnI_cases (a.getD j 0) (b.getD j 0)
  omega
theorem grows_law (h : List EV) (t1 t2 : List Int) (l1 : t1.length = 6) (l2 : t2.length = 6) : CutGrows h t1 t2 = some true := by
  unfold CutGrows
  rw [show sent = some sentH from rfl, bind_of rfl, bind_of sent_Grow, if_false' (by rw [(eqA6I_iff _ _).2 rfl]; rfl), bind_of (chk_eq h)]
  by_cases hc : chkF h = 0
  · obtain ⟨v, st, X⟩ := cx_of hc
    rw [hc, if_false' (by rfl)]
    obtain ⟨c, c1, vc⟩ := some_ok X l1
    obtain ⟨d, d1, vd⟩ := some_ok X l2
    obtain ⟨g, _, g2, vg, cg, gE⟩ := Grow_ok X vc
    have vm := max_valid vc vd
    obtain ⟨m, _, m2, vM, cm, mE⟩ := Grow_ok X vm
    have hgg : cut_Grow h g = some (g, 0) := by
      unfold cut_Grow
      rw [letO_def, bind_of (check_ok X vg), if_false' (by rfl), bind_of (grow_fix X vg cg)]
    rw [bind_of c1, bind_of d1, bind_of g2]
    dsimp only
    rw [bind_of (Right_t X vg cg), bind_of hgg, bind_of (max_eq _ _), bind_of m2]
    dsimp only
    have w1 : withinF c g = true := by
      rw [Vc.within_iff]
      intro j hj
      rw [gE j hj]
      exact gk_ge (c := (c.getD · 0)) 6
    have w2 : withinF g m = true := by
      rw [Vc.within_iff]
      intro j hj
      rw [gE j hj, mE j hj]
      refine gk_mono X.fact (fun j hj => (vm.rng j hj).2) (fun j hj => ?_) hj
      show c.getD j 0 ≤ (maxV c d).getD j 0
      rw [Vc.maxV_at vc.len hj]
      exact (mxI_cases _ _).1.1
    rw [within_eq, w1, within_eq, w2]
    simp only [Option.getD_some]
    rw [letO_def, ck_in (fun _ => by rfl), letO_def, ck_in (fun _ => by rfl), if_false' (by rw [(eqA6I_iff _ _).2 rfl]; rfl)]
    obtain ⟨b, b1, b2⟩ := Right_ok X vd
    rw [bind_of b1]
    dsimp only
    rw [within_eq, letO_def, ck_in (fun _ => by rfl), within_eq, letO_def, ck_in (fun _ => by rfl)]
    simp only [Option.getD_some]
    by_cases hb : b = true ∧ withinF c d = true
    · have hcl := b2.1 hb.1
      have hw := Vc.within_iff.1 hb.2
      have : withinF g d = true := by
        rw [Vc.within_iff]
        intro j hj
        rw [gE j hj]
        have h1 := gk_mono X.fact (c := (c.getD · 0)) (d := (d.getD · 0)) (fun j hj => (vd.rng j hj).2) hw hj
        have h2 := gk_fix hcl hj
        omega
      rw [this]
      simp
    · have : (b && withinF c d) = false := by
        rw [Bool.and_eq_false_iff]
        by_cases h1 : b = true
        · right
          exact Bool.eq_false_iff.2 fun h2 => hb ⟨h1, h2⟩
        · left; exact Bool.eq_false_iff.2 h1
      rw [this]
      simp
  · rw [if_true' (by simpa using hc)]
theorem meets_law (h : List EV) (t1 t2 : List Int) (l1 : t1.length = 6) (l2 : t2.length = 6) : CutMeets h t1 t2 = some true := by
  unfold CutMeets
  obtain ⟨v0, st0, X0, h0, hcl0⟩ := sent_grow
  have e1 : cut_Right sentH [(0 : Int), (1 : Int), (0 : Int), (0 : Int), (0 : Int), (0 : Int)] = some (false, 0) := by
    unfold cut_Right
    rw [bind_of (check_ok X0 (sent_valid (a := 0) (b := 1) (by omega) (by omega))), if_false' (by rfl), bind_of h0]
    have : eqA6I [(1 : Int), (1 : Int), (0 : Int), (0 : Int), (0 : Int), (0 : Int)] [(0 : Int), (1 : Int), (0 : Int), (0 : Int), (0 : Int), (0 : Int)] = false := Bool.eq_false_iff.2 fun h => by
      have := (eqA6I_iff _ _).1 h
      simp at this
    rw [this]
  rw [show sent = some sentH from rfl, bind_of rfl, bind_of e1, if_false' (by rfl), bind_of rfl, bind_of (Right_t X0 (sent_valid (a := 1) (b := 1) (by omega) (by omega)) hcl0), if_false' (by rfl), bind_of (chk_eq h)]
  by_cases hc : chkF h = 0
  · obtain ⟨v, st, X⟩ := cx_of hc
    rw [hc, if_false' (by rfl)]
    obtain ⟨c, c1, vc⟩ := some_ok X l1
    obtain ⟨d, d1, vd⟩ := some_ok X l2
    obtain ⟨g, _, g2, vg, cg, _⟩ := Grow_ok X vc
    obtain ⟨k, _, k2, vk, ck', _⟩ := Grow_ok X vd
    rw [bind_of c1, bind_of g2, bind_of d1, bind_of k2, bind_of (max_eq _ _)]
    have cM : Closed (SF st) ((maxV g k).getD · 0) := closed_max X.fact cg ck' fun j hj => Vc.maxV_at vg.len hj
    have cm : Closed (SF st) ((minV g k).getD · 0) := closed_min X.fact (fun j hj => (vg.rng j hj).2) (fun j hj => (vk.rng j hj).2) cg ck' fun j hj => minV_at vg.len hj
    rw [bind_of (Right_t X (max_valid vg vk) cM), bind_of (min_eq _ _), bind_of (Right_t X (min_valid vg vk) cm)]
    rfl
  · rw [if_true' (by simpa using hc)]
end Go.Proofs.Ytdahfpfkjljojaa.Ct
