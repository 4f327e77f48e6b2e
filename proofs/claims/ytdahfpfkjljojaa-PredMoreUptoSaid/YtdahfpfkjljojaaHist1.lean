/- Histories: what Check, Stamps, Vectors and Ahead answer, as functions of lists. -/
import Derived.Test.YtdahfpfkjljojaaPure0
import Derived.Test.YtdahfpfkjljojaaVcDefs
open Go Go.Proofs.Ytdahfpfkjljojaa.Sy Go.Proofs.Ytdahfpfkjljojaa.Pu
set_option linter.unusedVariables false
set_option linter.unusedSimpArgs false
namespace Go.Proofs.Ytdahfpfkjljojaa.Vc

abbrev EV := Int × Int × Int × Unit
abbrev dE : EV := ((0 : Int), (0 : Int), (0 : Int), ())
abbrev z6 : List Int := List.replicate 6 (0 : Int)
abbrev inc1 (x : Int) : Int := arR .add .i64 x (1 : Int)
abbrev badB (e : EV) : Bool := (((decide (e.1 < (0 : Int))) || (decide (e.1 ≥ (6 : Int)))) || (decide (e.2.2.1 < (0 : Int)))) || (decide (e.2.2.1 ≥ (30 : Int)))
abbrev gotB (g : List (List Bool)) (e : EV) : Bool := (g.getD e.2.2.1.toNat (List.replicate 6 false)).getD e.1.toNat false
def chkL : List EV → List Int → List (List Bool) → Int
  | [], _, _ => 0
  | e :: r, s, g =>
    if badB e = true then 1
    else if (e.2.1 == (1 : Int)) = true then (if (e.2.2.1 != (0 : Int)) = true then 4 else chkL r s g)
    else if (e.2.1 == (2 : Int)) = true then (if ((s.getD e.2.2.1.toNat (0 : Int)) != (0 : Int)) = true then 4 else chkL r (s.set e.2.2.1.toNat (inc1 e.1)) g)
    else if (e.2.1 == (3 : Int)) = true then (if ((((s.getD e.2.2.1.toNat (0 : Int)) == (0 : Int)) || ((s.getD e.2.2.1.toNat (0 : Int)) == inc1 e.1)) || gotB g e) = true then 4 else chkL r s (g.set e.2.2.1.toNat ((g.getD e.2.2.1.toNat (List.replicate 6 false)).set e.1.toNat true)))
    else 4
def chkF (h : List EV) : Int := if (decide ((h.length : Int) > (60 : Int))) = true then 2 else chkL h (List.replicate 30 (0 : Int)) (List.replicate 30 (List.replicate 6 false))

theorem drop_at {l : List EV} {i : Nat} (h : i < l.length) : l.drop i = l.getD i dE :: l.drop (i + 1) := by
  rw [List.drop_eq_getElem_cons h, getD_lt h]
theorem bad_out {e : EV} (h : badB e = false) : 0 ≤ e.1 ∧ e.1 < 6 ∧ 0 ≤ e.2.2.1 ∧ e.2.2.1 < 30 := by
  simp only [badB, Bool.or_eq_false_iff, decide_eq_false_iff_not] at h
  omega

def endE (r : Int) : Unit ⊕ Int := if r = 0 then .inl () else .inr r
theorem bdich (b : Bool) : b = true ∨ b = false := by cases b <;> simp
theorem chk_loop (h : List EV) (hlen : h.length ≤ 60) : ∀ (m k : Nat) (s : List Int) (g : List (List Bool)), k + m = h.length →
    loopO (fun x : List Int × List (List Bool) × Int => stamp_Check_L1 h (h.length : Int) x.1 x.2.1 x.2.2) (s, g, (k : Int)) = some (endE (chkL (h.drop k) s g))
  | 0, k, s, g, hk => by
    rw [List.drop_eq_nil_of_le (by omega)]
    refine loopO_done ?_
    simp only [stamp_Check_L1]
    rw [if_false' (dec_f (by omega))]
    rfl
  | m + 1, k, s, g, hk => by
    have ih := chk_loop h hlen m (k + 1)
    rw [drop_at (by omega)]
    have hkI : (k : Int) < (h.length : Int) := by omega
    generalize he : h.getD k dE = e
    have hstep : stamp_Check_L1 h (h.length : Int) s g (k : Int) = (if badB e = true then some (.inr (.inr 1)) else
        if (e.2.1 == (1 : Int)) = true then (if (e.2.2.1 != (0 : Int)) = true then some (.inr (.inr 4)) else some (.inl (s, g, ((k + 1 : Nat) : Int)))) else
        if (e.2.1 == (2 : Int)) = true then (if ((s.getD e.2.2.1.toNat (0 : Int)) != (0 : Int)) = true then some (.inr (.inr 4)) else some (.inl (s.set e.2.2.1.toNat (inc1 e.1), g, ((k + 1 : Nat) : Int)))) else
        if (e.2.1 == (3 : Int)) = true then (if ((((s.getD e.2.2.1.toNat (0 : Int)) == (0 : Int)) || ((s.getD e.2.2.1.toNat (0 : Int)) == inc1 e.1)) || gotB g e) = true then some (.inr (.inr 4)) else some (.inl (s, g.set e.2.2.1.toNat ((g.getD e.2.2.1.toNat (List.replicate 6 false)).set e.1.toNat true), ((k + 1 : Nat) : Int)))) else some (.inr (.inr 4))) := by
      unfold stamp_Check_L1
      rw [if_true' (dec_t hkI), ck_in ⟨by omega, hkI⟩, letO_def, Int.toNat_natCast, he]
      simp only [stamp_Check_J2, inc64 (show k < 1000000000000 by omega)]
      rcases bdich (badB e) with hb | hb
      · rw [if_true' hb, if_true' hb]
      · rw [if_false' hb, if_false' hb]
        obtain ⟨b1, b2, b3, b4⟩ := bad_out hb
        have hck : 0 ≤ e.2.2.1 ∧ e.2.2.1 < 30 := ⟨b3, b4⟩
        have hckp : 0 ≤ e.1 ∧ e.1 < 6 := ⟨b1, b2⟩
        simp only [ck, if_pos hck, if_pos hckp, hck, hckp, and_self, implies_true, if_true]
    simp only [chkL]
    rcases bdich (badB e) with hb | hb
    · rw [if_true' hb] at hstep ⊢
      exact loopO_done hstep
    rw [if_false' hb] at hstep ⊢
    rcases bdich (e.2.1 == (1 : Int)) with h1 | h1
    · rw [if_true' h1] at hstep ⊢
      rcases bdich (e.2.2.1 != (0 : Int)) with h2 | h2
      · rw [if_true' h2] at hstep ⊢
        exact loopO_done hstep
      · rw [if_false' h2] at hstep ⊢
        exact (loopO_next hstep).trans (ih s g (by omega))
    rw [if_false' h1] at hstep ⊢
    rcases bdich (e.2.1 == (2 : Int)) with h2 | h2
    · rw [if_true' h2] at hstep ⊢
      rcases bdich ((s.getD e.2.2.1.toNat (0 : Int)) != (0 : Int)) with h3 | h3
      · rw [if_true' h3] at hstep ⊢
        exact loopO_done hstep
      · rw [if_false' h3] at hstep ⊢
        exact (loopO_next hstep).trans (ih _ g (by omega))
    rw [if_false' h2] at hstep ⊢
    rcases bdich (e.2.1 == (3 : Int)) with h3 | h3
    · rw [if_true' h3] at hstep ⊢
      rcases bdich ((((s.getD e.2.2.1.toNat (0 : Int)) == (0 : Int)) || ((s.getD e.2.2.1.toNat (0 : Int)) == inc1 e.1)) || gotB g e) with h4 | h4
      · rw [if_true' h4] at hstep ⊢
        exact loopO_done hstep
      · rw [if_false' h4] at hstep ⊢
        exact (loopO_next hstep).trans (ih s _ (by omega))
    rw [if_false' h3] at hstep ⊢
    exact loopO_done hstep
theorem check_eq (h : List EV) : stamp_Check h = some (chkF h) := by
  simp only [stamp_Check, chkF]
  rcases bdich (decide ((h.length : Int) > (60 : Int))) with hl | hl
  · rw [if_true' hl, if_true' hl]
  · rw [if_false' hl, if_false' hl]
    simp only [letO_def]
    have hlen : h.length ≤ 60 := by have := of_decide_eq_false hl; omega
    have := chk_loop h hlen h.length 0 (List.replicate 30 0) (List.replicate 30 (List.replicate 6 false)) (by omega)
    rw [List.drop_zero] at this
    by_cases hz : chkL h (List.replicate 30 0) (List.replicate 30 (List.replicate 6 false)) = 0
    · rw [endE, if_pos hz] at this
      exact (bindE_inl this).trans (by rw [hz])
    · rw [endE, if_neg hz] at this
      exact bindE_inr this

/-! ### What Check tells -/
abbrev evp (h : List EV) (i : Nat) : Int := (h.getD i dE).1
abbrev evk (h : List EV) (i : Nat) : Int := (h.getD i dE).2.1
abbrev evm (h : List EV) (i : Nat) : Int := (h.getD i dE).2.2.1
theorem chkL_good : ∀ (l : List EV) (s : List Int) (g : List (List Bool)), chkL l s g = 0 → ∀ e ∈ l, badB e = false
  | [], _, _, _ => fun e h => by cases h
  | e :: r, s, g, h => by
    simp only [chkL] at h
    rcases bdich (badB e) with hb | hb
    · rw [if_true' hb] at h; exact absurd h (by decide)
    rw [if_false' hb] at h
    have key : (∃ s' g', chkL r s' g' = 0) → ∀ e' ∈ e :: r, badB e' = false := by
      rintro ⟨s', g', h'⟩ e' he'
      rcases List.mem_cons.1 he' with rfl | he'
      · exact hb
      · exact chkL_good r s' g' h' e' he'
    split at h
    · split at h
      · exact absurd h (by decide)
      · exact key ⟨_, _, h⟩
    · split at h
      · split at h
        · exact absurd h (by decide)
        · exact key ⟨_, _, h⟩
      · split at h
        · split at h
          · exact absurd h (by decide)
          · exact key ⟨_, _, h⟩
        · exact absurd h (by decide)
structure Good (h : List EV) : Prop where
  len : h.length ≤ 60
  ev : ∀ i, i < h.length → 0 ≤ evp h i ∧ evp h i < 6 ∧ 0 ≤ evm h i ∧ evm h i < 30
theorem good_of {h : List EV} (hc : chkF h = 0) : Good h := by
  simp only [chkF] at hc
  rcases bdich (decide ((h.length : Int) > (60 : Int))) with hl | hl
  · rw [if_true' hl] at hc; exact absurd hc (by decide)
  · rw [if_false' hl] at hc
    refine ⟨by have := of_decide_eq_false hl; omega, fun i hi => ?_⟩
    have := chkL_good _ _ _ hc (h.getD i dE) (by rw [getD_lt hi]; exact List.getElem_mem hi)
    exact bad_out this

/-! ### Clocks, whatever they count -/
section Run
variable {α : Type} (z : α) (mx : α → α → α) (up : Int → α → α)
def gstep (S : List α × List α × List α) (e : EV) : List α × List α × List α :=
  let c1 := if (e.2.1 == (3 : Int)) = true then S.1.set e.1.toNat (mx (S.1.getD e.1.toNat z) (S.2.1.getD e.2.2.1.toNat z)) else S.1
  let c2 := c1.set e.1.toNat (up e.1 (c1.getD e.1.toNat z))
  let s2 := if (e.2.1 == (2 : Int)) = true then S.2.1.set e.2.2.1.toNat (c2.getD e.1.toNat z) else S.2.1
  (c2, s2, S.2.2 ++ [c2.getD e.1.toNat z])
def grun (h : List EV) (k : Nat) : List α × List α × List α := (h.take k).foldl (gstep z mx up) (List.replicate 6 z, List.replicate 30 z, [])
def gout (h : List EV) : List α := (grun z mx up h h.length).2.2
theorem grun_succ (h : List EV) (k : Nat) (hk : k < h.length) : grun z mx up h (k + 1) = gstep z mx up (grun z mx up h k) (h.getD k dE) := by
  simp only [grun]
  rw [List.take_succ_eq_append_getElem hk, List.foldl_append, getD_lt hk]
  rfl
def was (h : List EV) (o : Nat → α) (k : Nat) : α := lastOf (fun j => evp h j == evp h k) o z k
def sentBy (h : List EV) (o : Nat → α) (k : Nat) : α := lastOf (fun j => evk h j == 2 && evm h j == evm h k) o z k
/-- What an event is given. -/
def given (h : List EV) (o : Nat → α) (k : Nat) : α := up (evp h k) (if (evk h k == (3 : Int)) = true then mx (was z h o k) (sentBy z h o k) else was z h o k)
structure RunI (h : List EV) (k : Nat) (S : List α × List α × List α) : Prop where
  l1 : S.1.length = 6
  l2 : S.2.1.length = 30
  l3 : S.2.2.length = k
  c : ∀ p : Int, 0 ≤ p → p < 6 → S.1.getD p.toNat z = lastOf (fun j => evp h j == p) (S.2.2.getD · z) z k
  s : ∀ m : Int, 0 ≤ m → m < 30 → S.2.1.getD m.toNat z = lastOf (fun j => evk h j == 2 && evm h j == m) (S.2.2.getD · z) z k
  o : ∀ j, j < k → S.2.2.getD j z = given z mx up h (S.2.2.getD · z) j
variable {z mx up}
theorem given_congr {h : List EV} {o o' : Nat → α} {k : Nat} (hh : ∀ j, j < k → o j = o' j) : given z mx up h o k = given z mx up h o' k := by
  have h1 : was z h o k = was z h o' k := lastOf_congr fun j hj => ⟨rfl, hh j hj⟩
  have h2 : sentBy z h o k = sentBy z h o' k := lastOf_congr fun j hj => ⟨rfl, hh j hj⟩
  simp only [given, h1, h2]
theorem toNat_inj {a b : Int} (ha : 0 ≤ a) (hb : 0 ≤ b) : a.toNat = b.toNat ↔ a = b := by omega
theorem runI (h : List EV) (hg : Good h) : ∀ k, k ≤ h.length → RunI z mx up h k (grun z mx up h k)
  | 0, _ => by
    refine ⟨by simp [grun], by simp [grun], by simp [grun], fun p _ _ => ?_, fun m _ _ => ?_, fun j hj => by omega⟩
    · simp only [grun, List.take_zero, List.foldl_nil, lastOf]; exact getD_rep
    · simp only [grun, List.take_zero, List.foldl_nil, lastOf]; exact getD_rep
  | k + 1, hk => by
    obtain ⟨l1, l2, l3, hc, hs, ho⟩ := runI h hg k (by omega)
    rw [grun_succ z mx up h k (by omega)]
    generalize hS : grun z mx up h k = S at l1 l2 l3 hc hs ho ⊢
    obtain ⟨g1, g2, g3, g4⟩ := hg.ev k (by omega)
    generalize he : h.getD k dE = e
    have ep : evp h k = e.1 := by rw [evp, he]
    have ek : evk h k = e.2.1 := by rw [evk, he]
    have em : evm h k = e.2.2.1 := by rw [evm, he]
    rw [ep] at g1 g2
    rw [em] at g3 g4
    -- the value that is given
    generalize hc1 : (if (e.2.1 == (3 : Int)) = true then S.1.set e.1.toNat (mx (S.1.getD e.1.toNat z) (S.2.1.getD e.2.2.1.toNat z)) else S.1) = c1
    have hc1l : c1.length = 6 := by rw [← hc1]; split <;> simp [l1]
    have hc1v : c1.getD e.1.toNat z = if (e.2.1 == (3 : Int)) = true then mx (S.1.getD e.1.toNat z) (S.2.1.getD e.2.2.1.toNat z) else S.1.getD e.1.toNat z := by
      rw [← hc1]
      split
      · rw [getD_setD (by omega), if_pos rfl]
      · rfl
    have hc1o : ∀ q, q ≠ e.1.toNat → c1.getD q z = S.1.getD q z := by
      intro q hq
      rw [← hc1]
      split
      · rw [getD_setD (by omega), if_neg hq]
      · rfl
    generalize hv : up e.1 (c1.getD e.1.toNat z) = v
    have hc2v : (c1.set e.1.toNat v).getD e.1.toNat z = v := by rw [getD_setD (by omega), if_pos rfl]
    have hst : gstep z mx up S e = (c1.set e.1.toNat v, if (e.2.1 == (2 : Int)) = true then S.2.1.set e.2.2.1.toNat v else S.2.1, S.2.2 ++ [v]) := by
      simp only [gstep, hc1, hv, hc2v]
    rw [hst]
    have hold : ∀ j, j < k → (S.2.2 ++ [v]).getD j z = S.2.2.getD j z := fun j hj => by rw [getD_app, if_neg (by omega)]
    have hnew : (S.2.2 ++ [v]).getD k z = v := by rw [getD_app, if_pos (by omega)]
    have hgv : v = given z mx up h (S.2.2.getD · z) k := by
      simp only [given, was, sentBy, ep, ek, em]
      rw [← hc e.1 g1 g2, ← hs e.2.2.1 g3 g4, ← hc1v, hv]
    refine ⟨by simp [hc1l], by dsimp only; split <;> simp [l2], by simp [l3], fun p p0 p6 => ?_, fun m m0 m30 => ?_, fun j hj => ?_⟩
    · dsimp only
      rw [getD_setD (by omega)]
      simp only [lastOf]
      rw [ep]
      by_cases hp : p = e.1
      · subst hp
        rw [if_pos rfl, if_true' (beq_iff_eq.2 rfl), hnew]
      · rw [if_neg (fun h => hp ((toNat_inj p0 g1).1 h)), if_false' (by simpa using fun h => hp h.symm), hc1o _ (fun h => hp ((toNat_inj p0 g1).1 h)), hc p p0 p6]
        exact lastOf_congr fun j hj => ⟨rfl, (hold j hj).symm⟩
    · dsimp only
      simp only [lastOf]
      rw [ek, em]
      rcases bdich (e.2.1 == (2 : Int)) with h2 | h2
      · rw [if_true' h2, getD_setD (by omega)]
        by_cases hm : m = e.2.2.1
        · subst hm
          rw [if_pos rfl, if_true' (by rw [h2]; simp), hnew]
        · rw [if_neg (fun h => hm ((toNat_inj m0 g3).1 h)), if_false' (by rw [h2]; simpa using fun h => hm h.symm), hs m m0 m30]
          exact lastOf_congr fun j hj => ⟨rfl, (hold j hj).symm⟩
      · rw [if_false' h2, if_false' (by rw [h2]; rfl), hs m m0 m30]
        exact lastOf_congr fun j hj => ⟨rfl, (hold j hj).symm⟩
    · dsimp only
      by_cases hj2 : j = k
      · subst hj2
        exact hnew.trans (hgv.trans (given_congr fun i hi => (hold i hi).symm))
      · rw [hold j (by omega), ho j (by omega)]
        exact given_congr fun i hi => (hold i (by omega)).symm
/-- What a run gives. -/
structure IsRun (h : List EV) (o : List α) : Prop where
  len : o.length = h.length
  at_ : ∀ j, j < h.length → o.getD j z = given z mx up h (o.getD · z) j
theorem gout_run {h : List EV} (hg : Good h) : IsRun (z := z) (mx := mx) (up := up) h (gout z mx up h) := by
  have := runI (z := z) (mx := mx) (up := up) h hg h.length (Nat.le_refl _)
  exact ⟨this.l3, this.o⟩
end Run
end Go.Proofs.Ytdahfpfkjljojaa.Vc
