/- Histories: what Check, Stamps, Vectors and Ahead answer, as functions of lists. -/
import Derived.Test.YtdahfpfkjljojaaPure0
import Derived.Test.YtdahfpfkjljojaaVcDefs
open Go Go.Proofs.Ytdahfpfkjljojaa.Sy Go.Proofs.Ytdahfpfkjljojaa.Pu
set_option linter.unusedVariables false
set_option linter.unusedSimpArgs false
namespace Go.Proofs.Ytdahfpfkjljojaa.Vc

abbrev EV := Int × Int × Int × Unit
abbrev dE : EV := ((0 : Int), (0 : Int), (0 : Int), ())
abbrev z6 : List Int := List.replicate 6 (0 : Int)
abbrev inc1 (x : Int) : Int := arR .add .i64 x (1 : Int)
abbrev badB (e : EV) : Bool := (((decide (e.1 < (0 : Int))) || (decide (e.1 ≥ (6 : Int)))) || (decide (e.2.2.1 < (0 : Int)))) || (decide (e.2.2.1 ≥ (30 : Int)))
abbrev gotB (g : List (List Bool)) (e : EV) : Bool := (g.getD e.2.2.1.toNat (List.replicate 6 false)).getD e.1.toNat false
def chkL : List EV → List Int → List (List Bool) → Int
  | [], _, _ => 0
  | e :: r, s, g =>
    if badB e = true then 1
    else if (e.2.1 == (1 : Int)) = true then (if (e.2.2.1 != (0 : Int)) = true then 4 else chkL r s g)
    else if (e.2.1 == (2 : Int)) = true then (if ((s.getD e.2.2.1.toNat (0 : Int)) != (0 : Int)) = true then 4 else chkL r (s.set e.2.2.1.toNat (inc1 e.1)) g)
    else if (e.2.1 == (3 : Int)) = true then (if ((((s.getD e.2.2.1.toNat (0 : Int)) == (0 : Int)) || ((s.getD e.2.2.1.toNat (0 : Int)) == inc1 e.1)) || gotB g e) = true then 4 else chkL r s (g.set e.2.2.1.toNat ((g.getD e.2.2.1.toNat (List.replicate 6 false)).set e.1.toNat true)))
    else 4
def chkF (h : List EV) : Int := if (decide ((h.length : Int) > (60 : Int))) = true then 2 else chkL h (List.replicate 30 (0 : Int)) (List.replicate 30 (List.replicate 6 false))

theorem drop_at {l : List EV} {i : Nat} (h : i < l.length) : l.drop i = l.getD i dE :: l.drop (i + 1) := by
  rw [List.drop_eq_getElem_cons h, getD_lt h]
theorem bad_out {e : EV} (h : badB e = false) : 0 ≤ e.1 ∧ e.1 < 6 ∧ 0 ≤ e.2.2.1 ∧ e.2.2.1 < 30 := by
  simp only [badB, Bool.or_eq_false_iff, decide_eq_false_iff_not] at h
  omega

def endE (r : Int) : Unit ⊕ Int := if r = 0 then .inl () else .inr r
theorem bdich (b : Bool) : b = true ∨ b = false := by cases b <;> simp
theorem chk_loop (h : List EV) (hlen : h.length ≤ 60) : ∀ (m k : Nat) (s : List Int) (g : List (List Bool)), k + m = h.length →
    loopO (fun x : List Int × List (List Bool) × Int => stamp_Check_L1 h (h.length : Int) x.1 x.2.1 x.2.2) (s, g, (k : Int)) = some (endE (chkL (h.drop k) s g))
  | 0, k, s, g, hk => by
    rw [List.drop_eq_nil_of_le (by omega)]
    refine loopO_done ?_
    simp only [stamp_Check_L1]
    rw [if_false' (dec_f (by omega))]
    rfl
  | m + 1, k, s, g, hk => by
    have ih := chk_loop h hlen m (k + 1)
    rw [drop_at (by omega)]
    have hkI : (k : Int) < (h.length : Int) := by omega
    generalize he : h.getD k dE = e
    have hstep : stamp_Check_L1 h (h.length : Int) s g (k : Int) = (if badB e = true then some (.inr (.inr 1)) else
        if (e.2.1 == (1 : Int)) = true then (if (e.2.2.1 != (0 : Int)) = true then some (.inr (.inr 4)) else some (.inl (s, g, ((k + 1 : Nat) : Int)))) else
        if (e.2.1 == (2 : Int)) = true then (if ((s.getD e.2.2.1.toNat (0 : Int)) != (0 : Int)) = true then some (.inr (.inr 4)) else some (.inl (s.set e.2.2.1.toNat (inc1 e.1), g, ((k + 1 : Nat) : Int)))) else
        if (e.2.1 == (3 : Int)) = true then (if ((((s.getD e.2.2.1.toNat (0 : Int)) == (0 : Int)) || ((s.getD e.2.2.1.toNat (0 : Int)) == inc1 e.1)) || gotB g e) = true then some (.inr (.inr 4)) else some (.inl (s, g.set e.2.2.1.toNat ((g.getD e.2.2.1.toNat (List.replicate 6 false)).set e.1.toNat true), ((k + 1 : Nat) : Int)))) else some (.inr (.inr 4))) := by
      unfold stamp_Check_L1
      rw [if_true' (dec_t hkI), ck_in ⟨by omega, hkI⟩, letO_def, Int.toNat_natCast, he]
      simp only [stamp_Check_J2, inc64 (show k < 1000000000000 by omega)]
      rcases bdich (badB e) with hb | hb
      · rw [if_true' hb, if_true' hb]
      · rw [if_false' hb, if_false' hb]
        obtain ⟨b1, b2, b3, b4⟩ := bad_out hb
        have hck : 0 ≤ e.2.2.1 ∧ e.2.2.1 < 30 := ⟨b3, b4⟩
        have hckp : 0 ≤ e.1 ∧ e.1 < 6 := ⟨b1, b2⟩
        simp only [ck, if_pos hck, if_pos hckp, hck, hckp, and_self, implies_true, if_true]
    simp only [chkL]
    rcases bdich (badB e) with hb | hb
    · rw [if_true' hb] at hstep ⊢
      exact loopO_done hstep
    rw [if_false' hb] at hstep ⊢
    rcases bdich (e.2.1 == (1 : Int)) with h1 | h1
    · rw [if_true' h1] at hstep ⊢
      rcases bdich (e.2.2.1 != (0 : Int)) with h2 | h2
      · rw [if_true' h2] at hstep ⊢
        exact loopO_done hstep
      · rw [if_false' h2] at hstep ⊢
        exact (loopO_next hstep).trans (ih s g (by omega))
    rw [if_false' h1] at hstep ⊢
    rcases bdich (e.2.1 == (2 : Int)) with h2 | h2
    · rw [if_true' h2] at hstep ⊢
      rcases bdich ((s.getD e.2.2.1.toNat (0 : Int)) != (0 : Int)) with h3 | h3
      · rw [if_true' h3] at hstep ⊢
        exact loopO_done hstep
      · rw [if_false' h3] at hstep ⊢
        exact (loopO_next hstep).trans (ih _ g (by omega))
    rw [if_false' h2] at hstep ⊢
    rcases bdich (e.2.1 == (3 : Int)) with h3 | h3
    · rw [if_true' h3] at hstep ⊢
      rcases bdich ((((s.getD e.2.2.1.toNat (0 : Int)) == (0 : Int)) || ((s.getD e.2.2.1.toNat (0 : Int)) == inc1 e.1)) || gotB g e) with h4 | h4
      · rw [if_true' h4] at hstep ⊢
        exact loopO_done hstep
      · rw [if_false' h4] at hstep ⊢
        exact (loopO_next hstep).trans (ih s _ (by omega))
    rw [if_false' h3] at hstep ⊢
    exact loopO_done hstep
theorem check_eq (h : List EV) : stamp_Check h = some (chkF h) := by
  simp only [stamp_Check, chkF]
  rcases bdich (decide ((h.length : Int) > (60 : Int))) with hl | hl
  · rw [if_true' hl, if_true' hl]
  · rw [if_false' hl, if_false' hl]
    simp only [letO_def]
    have hlen : h.length ≤ 60 := by have := of_decide_eq_false hl; omega
    have := chk_loop h hlen h.length 0 (List.replicate 30 0) (List.replicate 30 (List.replicate 6 false)) (by omega)
    rw [List.drop_zero] at this
    by_cases hz : chkL h (List.replicate 30 0) (List.replicate 30 (List.replicate 6 false)) = 0
    · rw [endE, if_pos hz] at this
      exact (bindE_inl this).trans (by rw [hz])
    · rw [endE, if_neg hz] at this
      exact bindE_inr this

/-! ### What Check tells -/
abbrev evp (h : List EV) (i : Nat) : Int := (h.getD i dE).1
abbrev evk (h : List EV) (i : Nat) : Int := (h.getD i dE).2.1
abbrev evm (h : List EV) (i : Nat) : Int := (h.getD i dE).2.2.1
theorem chkL_good : ∀ (l : List EV) (s : List Int) (g : List (List Bool)), chkL l s g = 0 → ∀ e ∈ l, badB e = false
  | [], _, _, _ => fun e h => by cases h
  | e :: r, s, g, h => by
    simp only [chkL] at h
    rcases bdich (badB e) with hb | hb
    · rw [if_true' hb] at h; exact absurd h (by decide)
    rw [if_false' hb] at h
    have key : (∃ s' g', chkL r s' g' = 0) → ∀ e' ∈ e :: r, badB e' = false := by
      rintro ⟨s', g', h'⟩ e' he'
      rcases List.mem_cons.1 he' with rfl | he'
      · exact hb
      · exact chkL_good r s' g' h' e' he'
    split at h
    · split at h
      · exact absurd h (by decide)
      · exact key ⟨_, _, h⟩
    · split at h
      · split at h
        · exact absurd h (by decide)
        · exact key ⟨_, _, h⟩
      · split at h
        · split at h
          · exact absurd h (by decide)
          · exact key ⟨_, _, h⟩
        · exact absurd h (by decide)
structure Good (h : List EV) : Prop where
  len : h.length ≤ 60
  ev : ∀ i, i < h.length → 0 ≤ evp h i ∧ evp h i < 6 ∧ 0 ≤ evm h i ∧ evm h i < 30
theorem good_of {h : List EV} (hc : chkF h = 0) : Good h := by
  simp only [chkF] at hc
  rcases bdich (decide ((h.length : Int) > (60 : Int))) with hl | hl
  · rw [if_true' hl] at hc; exact absurd hc (by decide)
  · rw [if_false' hl] at hc
    refine ⟨by have := of_decide_eq_false hl; omega, fun i hi => ?_⟩
    have := chkL_good _ _ _ hc (h.getD i dE) (by rw [getD_lt hi]; exact List.getElem_mem hi)
    exact bad_out this

/-! ### Clocks, whatever they count -/
section Run
variable {α : Type} (z : α) (mx : α → α → α) (up : Int → α → α)
def gstep (S : List α × List α × List α) (e : EV) : List α × List α × List α :=
  let c1 := if (e.2.1 == (3 : Int)) = true then S.1.set e.1.toNat (mx (S.1.getD e.1.toNat z) (S.2.1.getD e.2.2.1.toNat z)) else S.1
  let c2 := c1.set e.1.toNat (up e.1 (c1.getD e.1.toNat z))
  let s2 := if (e.2.1 == (2 : Int)) = true then S.2.1.set e.2.2.1.toNat (c2.getD e.1.toNat z) else S.2.1
  (c2, s2, S.2.2 ++ [c2.getD e.1.toNat z])
def grun (h : List EV) (k : Nat) : List α × List α × List α := (h.take k).foldl (gstep z mx up) (List.replicate 6 z, List.replicate 30 z, [])
def gout (h : List EV) : List α := (grun z mx up h h.length).2.2
theorem grun_succ (h : List EV) (k : Nat) (hk : k < h.length) : grun z mx up h (k + 1) = gstep z mx up (grun z mx up h k) (h.getD k dE) := by
  simp only [grun]
  rw [List.take_succ_eq_append_getElem hk, List.foldl_append, getD_lt hk]
  rfl
def was (h : List EV) (o : Nat → α) (k : Nat) : α := lastOf (fun j => evp h j == evp h k) o z k
def sentBy (h : List EV) (o : Nat → α) (k : Nat) : α := lastOf (fun j => evk h j == 2 && evm h j == evm h k) o z k
/-- What an event is given. -/
def given (h : List EV) (o : Nat → α) (k : Nat) : α := up (evp h k) (if (evk h k == (3 : Int)) = true then mx (was z h o k) (sentBy z h o k) else was z h o k)
structure RunI (h : List EV) (k : Nat) (S : List α × List α × List α) : Prop where
  l1 : S.1.length = 6
  l2 : S.2.1.length = 30
  l3 : S.2.2.length = k
  c : ∀ p : Int, 0 ≤ p → p < 6 → S.1.getD p.toNat z = lastOf (fun j => evp h j == p) (S.2.2.getD · z) z k
  s : ∀ m : Int, 0 ≤ m → m < 30 → S.2.1.getD m.toNat z = lastOf (fun j => evk h j == 2 && evm h j == m) (S.2.2.getD · z) z k
  o : ∀ j, j < k → S.2.2.getD j z = given z mx up h (S.2.2.getD · z) j
variable {z mx up}
theorem given_congr {h : List EV} {o o' : Nat → α} {k : Nat} (hh : ∀ j, j < k → o j = o' j) : given z mx up h o k = given z mx up h o' k := by
  have h1 : was z h o k = was z h o' k := lastOf_congr fun j hj => ⟨rfl, hh j hj⟩
  have h2 : sentBy z h o k = sentBy z h o' k := lastOf_congr fun j hj => ⟨rfl, hh j hj⟩
  simp only [given, h1, h2]
theorem toNat_inj {a b : Int} (ha : 0 ≤ a) (hb : 0 ≤ b) : a.toNat = b.toNat ↔ a = b := by omega
theorem runI (h : List EV) (hg : Good h) : ∀ k, k ≤ h.length → RunI z mx up h k (grun z mx up h k)
  | 0, _ => by
    refine ⟨by simp [grun], by simp [grun], by simp [grun], fun p _ _ => ?_, fun m _ _ => ?_, fun j hj => by omega⟩
    · simp only [grun, List.take_zero, List.foldl_nil, lastOf]; exact getD_rep
    · simp only [grun, List.take_zero, List.foldl_nil, lastOf]; exact getD_rep
  | k + 1, hk => by
    obtain ⟨l1, l2, l3, hc, hs, ho⟩ := runI h hg k (by omega)
    rw [grun_succ z mx up h k (by omega)]
    generalize hS : grun z mx up h k = S at l1 l2 l3 hc hs ho ⊢
    obtain ⟨g1, g2, g3, g4⟩ := hg.ev k (by omega)
    generalize he : h.getD k dE = e
    have ep : evp h k = e.1 := by rw [evp, he]
    have ek : evk h k = e.2.1 := by rw [evk, he]
    have em : evm h k = e.2.2.1 := by rw [evm, he]
    rw [ep] at g1 g2
    rw [em] at g3 g4
    -- the value that is given
    generalize hc1 : (if (e.2.1 == (3 : Int)) = true then S.1.set e.1.toNat (mx (S.1.getD e.1.toNat z) (S.2.1.getD e.2.2.1.toNat z)) else S.1) = c1
    have hc1l : c1.length = 6 := by rw [← hc1]; split <;> simp [l1]
    have hc1v : c1.getD e.1.toNat z = if (e.2.1 == (3 : Int)) = true then mx (S.1.getD e.1.toNat z) (S.2.1.getD e.2.2.1.toNat z) else S.1.getD e.1.toNat z := by
      rw [← hc1]
      split
      · rw [getD_setD (by omega), if_pos rfl]
      · rfl
    have hc1o : ∀ q, q ≠ e.1.toNat → c1.getD q z = S.1.getD q z := by
      intro q hq
      rw [← hc1]
      split
      · rw [getD_setD (by omega), if_neg hq]
      · rfl
    generalize hv : up e.1 (c1.getD e.1.toNat z) = v
    have hc2v : (c1.set e.1.toNat v).getD e.1.toNat z = v := by rw [getD_setD (by omega), if_pos rfl]
    have hst : gstep z mx up S e = (c1.set e.1.toNat v, if (e.2.1 == (2 : Int)) = true then S.2.1.set e.2.2.1.toNat v else S.2.1, S.2.2 ++ [v]) := by
      simp only [gstep, hc1, hv, hc2v]
    rw [hst]
    have hold : ∀ j, j < k → (S.2.2 ++ [v]).getD j z = S.2.2.getD j z := fun j hj => by rw [getD_app, if_neg (by omega)]
    have hnew : (S.2.2 ++ [v]).getD k z = v := by rw [getD_app, if_pos (by omega)]
    have hgv : v = given z mx up h (S.2.2.getD · z) k := by
      simp only [given, was, sentBy, ep, ek, em]
      rw [← hc e.1 g1 g2, ← hs e.2.2.1 g3 g4, ← hc1v, hv]
    refine ⟨by simp [hc1l], by dsimp only; split <;> simp [l2], by simp [l3], fun p p0 p6 => ?_, fun m m0 m30 => ?_, fun j hj => ?_⟩
    · dsimp only
      rw [getD_setD (by omega)]
      simp only [lastOf]
      rw [ep]
      by_cases hp : p = e.1
      · subst hp
        rw [if_pos rfl, if_true' (beq_iff_eq.2 rfl), hnew]
      · rw [if_neg (fun h => hp ((toNat_inj p0 g1).1 h)), if_false' (by simpa using fun h => hp h.symm), hc1o _ (fun h => hp ((toNat_inj p0 g1).1 h)), hc p p0 p6]
        exact lastOf_congr fun j hj => ⟨rfl, (hold j hj).symm⟩
    · dsimp only
      simp only [lastOf]
      rw [ek, em]
      rcases bdich (e.2.1 == (2 : Int)) with h2 | h2
      · rw [if_true' h2, getD_setD (by omega)]
        by_cases hm : m = e.2.2.1
        · subst hm
          rw [if_pos rfl, if_true' (by rw [h2]; simp), hnew]
        · rw [if_neg (fun h => hm ((toNat_inj m0 g3).1 h)), if_false' (by rw [h2]; simpa using fun h => hm h.symm), hs m m0 m30]
          exact lastOf_congr fun j hj => ⟨rfl, (hold j hj).symm⟩
      · rw [if_false' h2, if_false' (by rw [h2]; rfl), hs m m0 m30]
        exact lastOf_congr fun j hj => ⟨rfl, (hold j hj).symm⟩
    · dsimp only
      by_cases hj2 : j = k
      · subst hj2
        exact hnew.trans (hgv.trans (given_congr fun i hi => (hold i hi).symm))
      · rw [hold j (by omega), ho j (by omega)]
        exact given_congr fun i hi => (hold i (by omega)).symm
/-- What a run gives. -/
structure IsRun (h : List EV) (o : List α) : Prop where
  len : o.length = h.length
  at_ : ∀ j, j < h.length → o.getD j z = given z mx up h (o.getD · z) j
theorem gout_run {h : List EV} (hg : Good h) : IsRun (z := z) (mx := mx) (up := up) h (gout z mx up h) := by
  have := runI (z := z) (mx := mx) (up := up) h hg h.length (Nat.le_refl _)
  exact ⟨this.l3, this.o⟩
end Run
end Go.Proofs.Ytdahfpfkjljojaa.Vc
open Go Go.Proofs.Ytdahfpfkjljojaa.Sy Go.Proofs.Ytdahfpfkjljojaa.Pu
set_option linter.unusedVariables false
set_option linter.unusedSimpArgs false
namespace Go.Proofs.Ytdahfpfkjljojaa.Vc

/-! ### Vectors, part by part -/
def vset (f : Int → Int → Int) (a b : List Int) (n : Nat) : List Int := (List.range n).foldl (fun a i => a.set i (f (a.getD i (0 : Int)) (b.getD i (0 : Int)))) a
theorem vset_succ (f : Int → Int → Int) (a b : List Int) (n : Nat) : vset f a b (n + 1) = (vset f a b n).set n (f ((vset f a b n).getD n (0 : Int)) (b.getD n (0 : Int))) := by
  simp only [vset, List.range_succ, List.foldl_append, List.foldl_cons, List.foldl_nil]
theorem vset_len (f : Int → Int → Int) (a b : List Int) : ∀ n, (vset f a b n).length = a.length
  | 0 => rfl
  | n + 1 => by rw [vset_succ, List.length_set, vset_len f a b n]
theorem vset_at (f : Int → Int → Int) (a b : List Int) : ∀ n, n ≤ a.length → ∀ j, (vset f a b n).getD j 0 = if j < n then f (a.getD j 0) (b.getD j 0) else a.getD j 0
  | 0, _, j => by simp [vset]
  | n + 1, hn, j => by
    rw [vset_succ, getD_setD (by rw [vset_len]; omega)]
    rw [vset_at f a b n (by omega) n, if_neg (Nat.lt_irrefl n), vset_at f a b n (by omega) j]
    by_cases h : j = n
    · subst h; rw [if_pos rfl, if_pos (by omega)]
    · rw [if_neg h]
      by_cases h2 : j < n
      · rw [if_pos h2, if_pos (by omega)]
      · rw [if_neg h2, if_neg (by omega)]
abbrev maxV (a b : List Int) : List Int := vset mxI a b 6
abbrev minV (a b : List Int) : List Int := vset mnI a b 6
theorem max_eq (a b : List Int) : vect_Max a b = some (maxV a b) := by
  simp only [vect_Max, letO_def]
  refine bind_of (loop_from (fun k => (vset mxI a b k, (k : Int))) 6 rfl (fun k hk => ?_) ?_)
  · dsimp only
    unfold vect_Max_L1
    have h1 : 0 ≤ (k : Int) ∧ (k : Int) < 6 := by omega
    rw [if_true' (dec_t h1.2), ck_in h1, ck_in h1, ck_in h1, letO_def, inc64 (by omega), Int.toNat_natCast, vset_succ]
  · rfl
theorem min_eq (a b : List Int) : vect_Min a b = some (minV a b) := by
  simp only [vect_Min, letO_def]
  refine bind_of (loop_from (fun k => (vset mnI a b k, (k : Int))) 6 rfl (fun k hk => ?_) ?_)
  · dsimp only
    unfold vect_Min_L1
    have h1 : 0 ≤ (k : Int) ∧ (k : Int) < 6 := by omega
    rw [if_true' (dec_t h1.2), ck_in h1, ck_in h1, ck_in h1, letO_def, inc64 (by omega), Int.toNat_natCast, vset_succ]
  · rfl
def withinF (a b : List Int) : Bool := (List.range 6).all fun j => decide (a.getD j 0 ≤ b.getD j 0)
theorem within_iff {a b : List Int} : withinF a b = true ↔ ∀ j, j < 6 → a.getD j 0 ≤ b.getD j 0 := by
  simp only [withinF, List.all_eq_true, List.mem_range, decide_eq_true_eq]
theorem within_eq (a b : List Int) : vect_Within a b = some (withinF a b) := by
  simp only [vect_Within, letO_def]
  have key : ∀ m k : Nat, k + m = 6 → (∀ j, j < k → a.getD j 0 ≤ b.getD j 0) → loopO (fun x : Int => vect_Within_L1 a b x) (k : Int) = some (if withinF a b = true then .inl () else .inr false) := by
    intro m
    induction m with
    | zero =>
      intro k hk hj
      refine loopO_done ?_
      have : k = 6 := by omega
      subst this
      rw [if_pos (within_iff.2 hj)]
      rfl
    | succ m ih =>
      intro k hk hj
      have h1 : 0 ≤ (k : Int) ∧ (k : Int) < 6 := by omega
      have hst : vect_Within_L1 a b (k : Int) = if a.getD k 0 ≤ b.getD k 0 then some (.inl ((k + 1 : Nat) : Int)) else some (.inr (.inr false)) := by
        unfold vect_Within_L1
        rw [if_true' (dec_t h1.2), ck_in h1, ck_in h1, inc64 (by omega), Int.toNat_natCast]
        by_cases hc : a.getD k 0 ≤ b.getD k 0
        · rw [if_pos hc, if_false' (dec_f (by omega))]
        · rw [if_neg hc, if_true' (dec_t (by omega))]
      by_cases hc : a.getD k 0 ≤ b.getD k 0
      · rw [if_pos hc] at hst
        refine (loopO_next hst).trans (ih (k + 1) (by omega) fun j hjk => ?_)
        by_cases e : j = k
        · subst e; exact hc
        · exact hj j (by omega)
      · rw [if_neg hc] at hst
        rw [if_neg (fun h => hc (within_iff.1 h k (by omega)))]
        exact loopO_done hst
  have := key 6 0 rfl (fun j hj => by omega)
  rcases bdich (withinF a b) with h | h
  · rw [if_true' h] at this
    exact (bindE_inl this).trans (by rw [h])
  · rw [if_false' h] at this
    exact (bindE_inr this).trans (by rw [h])
def compareF (a b : List Int) : Int := if a = b then 0 else if withinF a b = true then 1 else if withinF b a = true then 2 else 3
theorem compare_eq (a b : List Int) : vect_Compare a b = some (compareF a b) := by
  simp only [vect_Compare, compareF]
  by_cases h : a = b
  · rw [if_true' ((eqA6I_iff a b).2 h), if_pos h]
  · rw [if_false' (Bool.eq_false_iff.2 fun e => h ((eqA6I_iff a b).1 e)), if_neg h, bind_of (within_eq a b)]
    rcases bdich (withinF a b) with h1 | h1
    · rw [if_true' h1, if_true' h1]
    · rw [if_false' h1, if_false' h1, bind_of (within_eq b a)]
      rcases bdich (withinF b a) with h2 | h2
      · rw [if_true' h2, if_true' h2]
      · rw [if_false' h2, if_false' h2]

/-! ### Stamps -/
abbrev upI (p : Int) (x : Int) : Int := inc1 x
abbrev stampsO (h : List EV) : List Int := gout (0 : Int) mxI upI h
def stampsF (h : List EV) : List Int × Int := if (chkF h != (0 : Int)) = true then ([], chkF h) else (stampsO h, 0)
theorem stamps_eq (h : List EV) : stamp_Stamps h = some (stampsF h) := by
  simp only [stamp_Stamps, stampsF]
  rw [bind_of (check_eq h)]
  rcases bdich (chkF h != (0 : Int)) with hc | hc
  · rw [if_true' hc, if_true' hc]
  rw [if_false' hc, if_false' hc]
  have hg : Good h := good_of (by simpa using hc)
  simp only [letO_def]
  refine bind_of (loop_from (fun k => ((grun (0 : Int) mxI upI h k).1, (grun (0 : Int) mxI upI h k).2.1, (grun (0 : Int) mxI upI h k).2.2, (k : Int))) h.length (by rfl) (fun k hk => ?_) ?_)
  · have I := runI (z := (0 : Int)) (mx := mxI) (up := upI) h hg k (by omega)
    obtain ⟨g1, g2, g3, g4⟩ := hg.ev k hk
    have hl := hg.len
    dsimp only
    rw [grun_succ _ _ _ h k hk]
    generalize grun (0 : Int) mxI upI h k = S at I
    generalize he : h.getD k dE = e
    rw [evp, he] at g1 g2
    rw [evm, he] at g3 g4
    have l3 := I.l3
    unfold stamp_Stamps_L1
    have h1 : 0 ≤ (k : Int) ∧ (k : Int) < (h.length : Int) := by omega
    have hck : 0 ≤ e.2.2.1 ∧ e.2.2.1 < 30 := ⟨g3, g4⟩
    have hckp : 0 ≤ e.1 ∧ e.1 < 6 := ⟨g1, g2⟩
    rw [if_true' (dec_t h1.2), ck_in h1, letO_def, Int.toNat_natCast, he, ck_in hckp]
    have hsm : ∀ x : Int, (S.2.2.length : Int) + ((([x] : List Int).length : Nat) : Int) ≤ maxL := fun x => le_maxL (by simp [l3]; omega)
    simp only [ck, if_pos hck, stamp_Stamps_J2, stamp_Stamps_J3, letO_def, gstep, inc64 (show k < 1000000000000 by omega), hsm, if_true]
    rcases bdich (e.2.1 == (3 : Int)) with h3 | h3 <;> rcases bdich (e.2.1 == (2 : Int)) with h2 | h2 <;> simp only [h3, h2, if_true, if_false, Bool.false_eq_true] <;> rfl
  · dsimp only
    unfold stamp_Stamps_L1
    rw [if_false' (dec_f (by omega))]
    rfl

/-! ### Vectors -/
abbrev upV (p : Int) (x : List Int) : List Int := x.set p.toNat (inc1 (x.getD p.toNat (0 : Int)))
abbrev vectorsO (h : List EV) : List (List Int) := gout z6 maxV upV h
def vectorsF (h : List EV) : List (List Int) × Int := if (chkF h != (0 : Int)) = true then ([], chkF h) else (vectorsO h, 0)
theorem vectors_eq (h : List EV) : vect_Vectors h = some (vectorsF h) := by
  simp only [vect_Vectors, vectorsF]
  rw [bind_of (check_eq h)]
  rcases bdich (chkF h != (0 : Int)) with hc | hc
  · rw [if_true' hc, if_true' hc]
  rw [if_false' hc, if_false' hc]
  have hg : Good h := good_of (by simpa using hc)
  simp only [letO_def]
  refine bind_of (loop_from (fun k => ((grun z6 maxV upV h k).1, (grun z6 maxV upV h k).2.1, (grun z6 maxV upV h k).2.2, (k : Int))) h.length (by rfl) (fun k hk => ?_) ?_)
  · have I := runI (z := z6) (mx := maxV) (up := upV) h hg k (by omega)
    obtain ⟨g1, g2, g3, g4⟩ := hg.ev k hk
    have hl := hg.len
    dsimp only
    rw [grun_succ _ _ _ h k hk]
    generalize grun z6 maxV upV h k = S at I
    generalize he : h.getD k dE = e
    rw [evp, he] at g1 g2
    rw [evm, he] at g3 g4
    have l3 := I.l3
    unfold vect_Vectors_L1
    have h1 : 0 ≤ (k : Int) ∧ (k : Int) < (h.length : Int) := by omega
    have hck : 0 ≤ e.2.2.1 ∧ e.2.2.1 < 30 := ⟨g3, g4⟩
    have hckp : 0 ≤ e.1 ∧ e.1 < 6 := ⟨g1, g2⟩
    rw [if_true' (dec_t h1.2), ck_in h1, letO_def, Int.toNat_natCast, he, ck_in hckp]
    have hsm : ∀ x : List Int, (S.2.2.length : Int) + ((([x] : List (List Int)).length : Nat) : Int) ≤ maxL := fun x => le_maxL (by simp [l3]; omega)
    simp only [ck, if_pos hck, if_pos hckp, max_eq, Option.bind_some, vect_Vectors_J2, vect_Vectors_J3, letO_def, gstep, inc64 (show k < 1000000000000 by omega), hsm, if_true]
    rcases bdich (e.2.1 == (3 : Int)) with h3 | h3 <;> rcases bdich (e.2.1 == (2 : Int)) with h2 | h2 <;> simp only [h3, h2, if_true, if_false, Bool.false_eq_true] <;> rfl
  · dsimp only
    unfold vect_Vectors_L1
    rw [if_false' (dec_f (by omega))]
    rfl
end Go.Proofs.Ytdahfpfkjljojaa.Vc
open Go Go.Proofs.Ytdahfpfkjljojaa.Sy Go.Proofs.Ytdahfpfkjljojaa.Pu
set_option linter.unusedVariables false
set_option linter.unusedSimpArgs false
namespace Go.Proofs.Ytdahfpfkjljojaa.Vc

theorem lastOf_rel {α β : Type} {P : Nat → Bool} {v : Nat → α} {w : Nat → β} {z : α} {y : β} (R : α → β → Prop) : ∀ {k : Nat}, R z y → (∀ j, j < k → P j = true → R (v j) (w j)) → R (lastOf P v z k) (lastOf P w y k)
  | 0, h0, _ => h0
  | k + 1, h0, h => by
    simp only [lastOf]
    split
    · rename_i hp; exact h k (by omega) hp
    · exact lastOf_rel R h0 (fun j hj => h j (by omega))
theorem lastOf_prop {α : Type} {P : Nat → Bool} {v : Nat → α} {z : α} (R : α → Prop) {k : Nat} (h0 : R z) (h : ∀ j, j < k → P j = true → R (v j)) : R (lastOf P v z k) :=
  lastOf_rel (w := v) (y := z) (fun a _ => R a) h0 h
theorem inc_eq {x : Int} (h0 : -1000000 ≤ x) (h1 : x ≤ 1000000000) : inc1 x = x + 1 := add64 (by omega) (by omega)

/-! ### Stamps -/
abbrev StampRun (h : List EV) (s : List Int) : Prop := IsRun (z := (0 : Int)) (mx := mxI) (up := upI) h s
abbrev VectRun (h : List EV) (v : List (List Int)) : Prop := IsRun (z := z6) (mx := maxV) (up := upV) h v
theorem stamp_bound {h : List EV} {s : List Int} (hg : Good h) (hs : StampRun h s) : ∀ k, k < h.length → 1 ≤ s.getD k 0 ∧ s.getD k 0 ≤ k + 1 := by
  intro k
  induction k using Nat.strongRecOn with
  | _ k ih =>
    intro hk
    have hl := hg.len
    rw [hs.at_ k hk]
    have hw : 0 ≤ was (0 : Int) h (s.getD · 0) k ∧ was (0 : Int) h (s.getD · 0) k ≤ k := lastOf_prop (fun x => 0 ≤ x ∧ x ≤ (k : Int)) ⟨Int.le_refl _, by omega⟩ fun j hj _ => by have := ih j hj (by omega); omega
    have hn : 0 ≤ sentBy (0 : Int) h (s.getD · 0) k ∧ sentBy (0 : Int) h (s.getD · 0) k ≤ k := lastOf_prop (fun x => 0 ≤ x ∧ x ≤ (k : Int)) ⟨Int.le_refl _, by omega⟩ fun j hj _ => by have := ih j hj (by omega); omega
    simp only [given, upI]
    have hm := mxI_cases (was (0 : Int) h (s.getD · 0) k) (sentBy (0 : Int) h (s.getD · 0) k)
    split
    · rw [inc_eq (by omega) (by omega)]; omega
    · rw [inc_eq (by omega) (by omega)]; omega

/-! ### Vectors -/
def VOk (x : List Int) (b : Int) : Prop := x.length = 6 ∧ ∀ j, j < 6 → 0 ≤ x.getD j 0 ∧ x.getD j 0 ≤ b
theorem z6_ok {b : Int} (h : 0 ≤ b) : VOk z6 b := ⟨by simp, fun j hj => by rw [getD_rep]; omega⟩
theorem VOk.mono {x : List Int} {b c : Int} (h : VOk x b) (hbc : b ≤ c) : VOk x c := ⟨h.1, fun j hj => by have := h.2 j hj; omega⟩
theorem maxV_len {a b : List Int} : (maxV a b).length = a.length := vset_len _ _ _ _
theorem maxV_at {a b : List Int} (ha : a.length = 6) {j : Nat} (hj : j < 6) : (maxV a b).getD j 0 = mxI (a.getD j 0) (b.getD j 0) := by
  rw [vset_at mxI a b 6 (by omega) j, if_pos hj]
theorem maxV_ok {a b : List Int} {c : Int} (ha : VOk a c) (hb : VOk b c) : VOk (maxV a b) c :=
  ⟨maxV_len.trans ha.1, fun j hj => by
    rw [maxV_at ha.1 hj]
    have := mxI_cases (a.getD j 0) (b.getD j 0)
    have := ha.2 j hj
    have := hb.2 j hj
    omega⟩
theorem upV_at {p : Int} {x : List Int} (hx : x.length = 6) (h0 : 0 ≤ p) (h6 : p < 6) (j : Nat) : (upV p x).getD j 0 = if j = p.toNat then inc1 (x.getD j 0) else x.getD j 0 := by
  rw [getD_setD (by omega)]
  by_cases h : j = p.toNat
  · subst h; simp
  · rw [if_neg h, if_neg h]
theorem vect_bound {h : List EV} {v : List (List Int)} (hg : Good h) (hs : VectRun h v) : ∀ k, k < h.length → VOk (v.getD k z6) (k + 1) := by
  intro k
  induction k using Nat.strongRecOn with
  | _ k ih =>
    intro hk
    have hl := hg.len
    obtain ⟨g1, g2, _, _⟩ := hg.ev k hk
    rw [hs.at_ k hk]
    have hw : VOk (was z6 h (v.getD · z6) k) k := lastOf_prop (fun x => VOk x k) (z6_ok (by omega)) fun j hj _ => (ih j hj (by omega)).mono (by omega)
    have hn : VOk (sentBy z6 h (v.getD · z6) k) k := lastOf_prop (fun x => VOk x k) (z6_ok (by omega)) fun j hj _ => (ih j hj (by omega)).mono (by omega)
    have key : ∀ x, VOk x k → VOk (upV (evp h k) x) (k + 1) := by
      intro x hx
      refine ⟨by rw [List.length_set]; exact hx.1, fun j hj => ?_⟩
      rw [upV_at hx.1 g1 g2]
      have := hx.2 j hj
      split
      · rw [inc_eq (by omega) (by omega)]; omega
      · omega
    simp only [given]
    split
    · exact key _ (maxV_ok hw hn)
    · exact key _ hw
theorem was_ok {h : List EV} {v : List (List Int)} (hg : Good h) (hs : VectRun h v) {k : Nat} (hk : k < h.length) : VOk (was z6 h (v.getD · z6) k) k :=
  lastOf_prop (fun x => VOk x k) (z6_ok (by omega)) fun j hj _ => (vect_bound hg hs j (by omega)).mono (by omega)
theorem sent_ok {h : List EV} {v : List (List Int)} (hg : Good h) (hs : VectRun h v) {k : Nat} (hk : k < h.length) : VOk (sentBy z6 h (v.getD · z6) k) k :=
  lastOf_prop (fun x => VOk x k) (z6_ok (by omega)) fun j hj _ => (vect_bound hg hs j (by omega)).mono (by omega)
theorem maxV_z6 {a : List Int} {c : Int} (ha : VOk a c) : maxV a z6 = a := by
  refine ext_getD 0 maxV_len fun j hj => ?_
  have hj6 : j < 6 := by rw [maxV_len, ha.1] at hj; exact hj
  rw [maxV_at ha.1 hj6, getD_rep]
  have := ha.2 j hj6
  have := mxI_cases (a.getD j 0) 0
  omega
/-- What an event's vector is, at each place. -/
theorem vect_at {h : List EV} {v : List (List Int)} (hg : Good h) (hs : VectRun h v) {k : Nat} (hk : k < h.length) {j : Nat} (hj : j < 6) :
    (v.getD k z6).getD j 0 = (if (evk h k == (3 : Int)) = true then mxI ((was z6 h (v.getD · z6) k).getD j 0) ((sentBy z6 h (v.getD · z6) k).getD j 0) else (was z6 h (v.getD · z6) k).getD j 0) + if j = (evp h k).toNat then 1 else 0 := by
  obtain ⟨g1, g2, _, _⟩ := hg.ev k hk
  have hl := hg.len
  have hw := was_ok hg hs hk
  have hn := sent_ok hg hs hk
  rw [hs.at_ k hk]
  simp only [given]
  have b1 := hw.2 j hj
  have b2 := hn.2 j hj
  have b3 := mxI_cases ((was z6 h (v.getD · z6) k).getD j 0) ((sentBy z6 h (v.getD · z6) k).getD j 0)
  rcases bdich (evk h k == (3 : Int)) with h3 | h3
  · rw [if_true' h3, if_true' h3, upV_at (maxV_len.trans hw.1) g1 g2, maxV_at hw.1 hj]
    split
    · rw [inc_eq (by omega) (by omega)]
    · omega
  · rw [if_false' h3, if_false' h3, upV_at hw.1 g1 g2]
    split
    · rw [inc_eq (by omega) (by omega)]
    · omega
/-- How many events of a process are among the first k. -/
def cnt (h : List EV) (p : Int) : Nat → Int
  | 0 => 0
  | k + 1 => cnt h p k + if evp h k = p then 1 else 0
theorem cnt_mono {h : List EV} {p : Int} {i k : Nat} (hik : i ≤ k) : cnt h p i ≤ cnt h p k := by
  induction hik with
  | refl => exact Int.le_refl _
  | step _ ih => simp only [cnt]; split <;> omega
theorem cnt_nonneg {h : List EV} {p : Int} {k : Nat} : 0 ≤ cnt h p k := by have := cnt_mono (h := h) (p := p) (Nat.zero_le k); simpa [cnt] using this
theorem cnt_le {h : List EV} {p : Int} : ∀ k, cnt h p k ≤ k
  | 0 => by simp [cnt]
  | k + 1 => by
    have := cnt_le (h := h) (p := p) k
    simp only [cnt]; split <;> omega
theorem cnt_same {h : List EV} {p : Int} {i : Nat} : ∀ {k : Nat}, i ≤ k → (∀ j, i ≤ j → j < k → evp h j ≠ p) → cnt h p k = cnt h p i
  | 0, hik, _ => by have : i = 0 := by omega
                    rw [this]
  | k + 1, hik, hn => by
    by_cases e : i = k + 1
    · rw [e]
    · simp only [cnt]
      rw [if_neg (hn k (by omega) (by omega)), cnt_same (by omega) (fun j h1 h2 => hn j h1 (by omega))]
      omega
theorem was_count {h : List EV} {v : List (List Int)} {k : Nat} (hv : ∀ j, j < k → ∀ q : Int, 0 ≤ q → q < 6 → (v.getD j z6).getD q.toNat 0 ≤ cnt h q (j + 1)) (hown : ∀ j, j < k → (v.getD j z6).getD (evp h j).toNat 0 = cnt h (evp h j) (j + 1)) :
    (∀ q : Int, 0 ≤ q → q < 6 → (was z6 h (v.getD · z6) k).getD q.toNat 0 ≤ cnt h q k) ∧ (was z6 h (v.getD · z6) k).getD (evp h k).toNat 0 = cnt h (evp h k) k ∧ ∀ q : Int, 0 ≤ q → q < 6 → (sentBy z6 h (v.getD · z6) k).getD q.toNat 0 ≤ cnt h q k := by
  refine ⟨fun q q0 q6 => ?_, ?_, fun q q0 q6 => ?_⟩
  · exact lastOf_prop (fun x : List Int => x.getD q.toNat 0 ≤ cnt h q k) (by rw [getD_rep]; exact cnt_nonneg) fun j hj _ => Int.le_trans (hv j hj q q0 q6) (cnt_mono (by omega))
  · unfold was
    rcases lastOf_cases (fun j => evp h j == evp h k) (v.getD · z6) z6 k with ⟨h1, h2⟩ | ⟨j, h1, h2, h3, h4⟩
    · rw [h1, getD_rep]
      have := cnt_same (h := h) (p := evp h k) (i := 0) (k := k) (by omega) (fun j _ hj => by simpa using h2 j hj)
      rw [this]; rfl
    · rw [h3]
      have e : evp h j = evp h k := by simpa using h2
      rw [← e, hown j h1, e]
      exact (cnt_same (by omega) (fun i hi1 hi2 => by simpa using h4 i (by omega) hi2)).symm
  · exact lastOf_prop (fun x : List Int => x.getD q.toNat 0 ≤ cnt h q k) (by rw [getD_rep]; exact cnt_nonneg) fun j hj _ => Int.le_trans (hv j hj q q0 q6) (cnt_mono (by omega))
theorem vect_count {h : List EV} {v : List (List Int)} (hg : Good h) (hs : VectRun h v) : ∀ k, k < h.length → (∀ q : Int, 0 ≤ q → q < 6 → (v.getD k z6).getD q.toNat 0 ≤ cnt h q (k + 1)) ∧ (v.getD k z6).getD (evp h k).toNat 0 = cnt h (evp h k) (k + 1) := by
  intro k
  induction k using Nat.strongRecOn with
  | _ k ih =>
    intro hk
    obtain ⟨g1, g2, _, _⟩ := hg.ev k hk
    obtain ⟨w1, w2, w3⟩ := was_count (h := h) (v := v) (k := k) (fun j hj => (ih j hj (by omega)).1) (fun j hj => (ih j hj (by omega)).2)
    have hb := sent_ok hg hs hk
    refine ⟨fun q q0 q6 => ?_, ?_⟩
    · rw [vect_at hg hs hk (by omega)]
      have a1 := w1 q q0 q6
      have a3 := w3 q q0 q6
      have m := mxI_cases ((was z6 h (v.getD · z6) k).getD q.toNat 0) ((sentBy z6 h (v.getD · z6) k).getD q.toNat 0)
      have e : (q.toNat = (evp h k).toNat) ↔ evp h k = q := by omega
      simp only [cnt, e]
      split <;> split <;> omega
    · rw [vect_at hg hs hk (by omega)]
      have a3 := w3 (evp h k) g1 g2
      have m := mxI_cases ((was z6 h (v.getD · z6) k).getD (evp h k).toNat 0) ((sentBy z6 h (v.getD · z6) k).getD (evp h k).toNat 0)
      simp only [cnt, if_true]
      split <;> omega

/-! ### The library's Equal, Contains; Rest -/
theorem equalI_eq (a b : List Int) (ha : a.length < 1000000000) : slices_Equal_Lint_int a b = some (decide (a = b)) := by
  simp only [slices_Equal_Lint_int, letO_def]
  by_cases hl : a.length = b.length
  · rw [if_false' (by simp [hl])]
    have hst : ∀ k : Nat, k < a.length → slices_Equal_Lint_int_L1 a b (a.length : Int) (k : Int) = if a.getD k 0 = b.getD k 0 then some (.inl ((k + 1 : Nat) : Int)) else some (.inr (.inr false)) := by
      intro k hk
      unfold slices_Equal_Lint_int_L1
      rw [if_true' (dec_t (by omega)), ck_in (by omega), ck_in (by omega), inc64 (by omega), Int.toNat_natCast]
      by_cases e : a.getD k 0 = b.getD k 0
      · rw [if_pos e, if_false' (by simpa using e)]
      · rw [if_neg e, if_true' (by simpa using e)]
    by_cases e : a = b
    · refine (bindE_inl (y := ()) (loop_from (fun k => (k : Int)) a.length rfl (fun k hk => ?_) ?_)).trans (by rw [dec_t e])
      · rw [hst k hk, if_pos (by rw [e])]
      · unfold slices_Equal_Lint_int_L1
        rw [if_false' (dec_f (by omega))]
    · obtain ⟨z, h1, h2⟩ := loop_countE (B := fun x : Int => slices_Equal_Lint_int_L1 a b (a.length : Int) x) (fun k x => x = (k : Int) ∧ ∃ j, k ≤ j ∧ j < a.length ∧ a.getD j 0 ≠ b.getD j 0) a.length (fun z => z = .inr false) (x := (0 : Int)) ⟨rfl, by
          refine Classical.byContradiction fun hn => e (ext_getD 0 hl fun j hj => ?_)
          exact Classical.byContradiction fun hne => hn ⟨j, by omega, hj, hne⟩⟩ (by
          rintro k x hk ⟨rfl, j, j1, j2, j3⟩
          rw [hst k hk]
          by_cases ek : a.getD k 0 = b.getD k 0
          · rw [if_pos ek]
            refine .inl ⟨_, rfl, rfl, j, ?_, j2, j3⟩
            by_cases ejk : j = k
            · subst ejk; exact absurd ek j3
            · omega
          · rw [if_neg ek]
            exact .inr ⟨_, rfl, rfl⟩) (by
          rintro x ⟨rfl, j, j1, j2, j3⟩
          omega)
      subst h2
      exact (bindE_inr h1).trans (by rw [dec_f e])
  · rw [if_true' (by simpa using fun h => hl (by exact_mod_cast h)), dec_f (fun h => hl (by rw [h]))]
theorem equalV_eq (a b : List (List Int)) (ha : a.length < 1000000000) : slices_Equal_LVector_Vector a b = some (decide (a = b)) := by
  simp only [slices_Equal_LVector_Vector, letO_def]
  by_cases hl : a.length = b.length
  · rw [if_false' (by simp [hl])]
    have hst : ∀ k : Nat, k < a.length → slices_Equal_LVector_Vector_L1 a b (a.length : Int) (k : Int) = if a.getD k z6 = b.getD k z6 then some (.inl ((k + 1 : Nat) : Int)) else some (.inr (.inr false)) := by
      intro k hk
      unfold slices_Equal_LVector_Vector_L1
      rw [if_true' (dec_t (by omega)), ck_in (by omega), ck_in (by omega), inc64 (by omega), Int.toNat_natCast]
      by_cases e : a.getD k z6 = b.getD k z6
      · rw [if_pos e, if_false' (by rw [(eqA6I_iff _ _).2 e]; rfl)]
      · rw [if_neg e, if_true' (by rw [Bool.eq_false_iff.2 (fun h => e ((eqA6I_iff _ _).1 h))]; rfl)]
    by_cases e : a = b
    · refine (bindE_inl (y := ()) (loop_from (fun k => (k : Int)) a.length rfl (fun k hk => ?_) ?_)).trans (by rw [dec_t e])
      · rw [hst k hk, if_pos (by rw [e])]
      · unfold slices_Equal_LVector_Vector_L1
        rw [if_false' (dec_f (by omega))]
    · obtain ⟨z, h1, h2⟩ := loop_countE (B := fun x : Int => slices_Equal_LVector_Vector_L1 a b (a.length : Int) x) (fun k x => x = (k : Int) ∧ ∃ j, k ≤ j ∧ j < a.length ∧ a.getD j z6 ≠ b.getD j z6) a.length (fun z => z = .inr false) (x := (0 : Int)) ⟨rfl, by
          refine Classical.byContradiction fun hn => e (ext_getD z6 hl fun j hj => ?_)
          exact Classical.byContradiction fun hne => hn ⟨j, by omega, hj, hne⟩⟩ (by
          rintro k x hk ⟨rfl, j, j1, j2, j3⟩
          rw [hst k hk]
          by_cases ek : a.getD k z6 = b.getD k z6
          · rw [if_pos ek]
            refine .inl ⟨_, rfl, rfl, j, ?_, j2, j3⟩
            by_cases ejk : j = k
            · subst ejk; exact absurd ek j3
            · omega
          · rw [if_neg ek]
            exact .inr ⟨_, rfl, rfl⟩) (by
          rintro x ⟨rfl, j, j1, j2, j3⟩
          omega)
      subst h2
      exact (bindE_inr h1).trans (by rw [dec_f e])
  · rw [if_true' (by simpa using fun h => hl (by exact_mod_cast h)), dec_f (fun h => hl (by rw [h]))]
theorem tmod_rest (a n : Int) (hn : 0 < n) : (a.tmod n + n).tmod n = a % n := by
  have h1 := Int.tmod_lt_of_pos a hn
  have h2 : -n < a.tmod n := by
    have := Int.lt_tmod_of_pos a hn
    exact this
  rw [Int.tmod_eq_emod_of_nonneg (by omega), Int.add_emod_right]
  rw [Int.tmod_def]
  rw [Int.sub_emod, Int.mul_emod_right]
  simp
theorem rest_eq (a n : Int) (hn : 0 < n) (hb : n < 1000000000000) : R_Rest a n = some (a % n) := by
  unfold R_Rest
  rw [if_false' (dec_f (by omega)), ck_in (by omega), ck_in (by omega)]
  have h1 := Int.tmod_lt_of_pos a hn
  have h2 := Int.lt_tmod_of_pos a hn
  rw [rem64, rem64, add64 (by omega) (by omega), tmod_rest a n hn]
theorem cont_eq (l : List (Int × Int × Unit)) (x : Int × Int × Unit) (hl : l.length < 1000000000) : slices_Contains_LPair_Pair l x = some (decide (x ∈ l)) := by
  unfold slices_Contains_LPair_Pair
  have hst : ∀ k : Nat, k < l.length → slices_Index_LPair_Pair_L1 l x (l.length : Int) (k : Int) = if x = l.getD k ((0 : Int), (0 : Int), ()) then some (.inr (.inr (k : Int))) else some (.inl ((k + 1 : Nat) : Int)) := by
    intro k hk
    unfold slices_Index_LPair_Pair_L1
    rw [if_true' (dec_t (by omega)), ck_in (by omega), inc64 (by omega), Int.toNat_natCast]
    by_cases e : x = l.getD k ((0 : Int), (0 : Int), ())
    · rw [if_pos e, if_true' ((eqTIIE_iff _ _).2 e)]
    · rw [if_neg e, if_false' (Bool.eq_false_iff.2 (fun h => e ((eqTIIE_iff _ _).1 h)))]
  by_cases hm : x ∈ l
  · obtain ⟨i, hi, he⟩ := (mem_getD (d := ((0 : Int), (0 : Int), ()))).1 hm
    have : ∃ z, slices_Index_LPair_Pair l x = some z ∧ 0 ≤ z := by
      simp only [slices_Index_LPair_Pair, letO_def]
      obtain ⟨z, h1, h2⟩ := loop_countE (B := fun y : Int => slices_Index_LPair_Pair_L1 l x (l.length : Int) y) (fun k y => y = (k : Int) ∧ ∃ j, k ≤ j ∧ j < l.length ∧ x = l.getD j ((0 : Int), (0 : Int), ())) l.length (fun z => ∃ w : Int, z = .inr w ∧ 0 ≤ w) (x := (0 : Int)) ⟨rfl, i, by omega, hi, he.symm⟩ (by
          rintro k y hk ⟨rfl, j, j1, j2, j3⟩
          rw [hst k hk]
          by_cases ek : x = l.getD k ((0 : Int), (0 : Int), ())
          · rw [if_pos ek]
            exact .inr ⟨_, rfl, _, rfl, by omega⟩
          · rw [if_neg ek]
            refine .inl ⟨_, rfl, rfl, j, ?_, j2, j3⟩
            by_cases ejk : j = k
            · subst ejk; exact absurd j3 ek
            · omega) (by
          rintro y ⟨rfl, j, j1, j2, j3⟩
          omega)
      obtain ⟨w, rfl, hw⟩ := h2
      exact ⟨w, bindE_inr h1, hw⟩
    obtain ⟨z, h1, h2⟩ := this
    rw [bind_of h1, dec_t hm]
    simp [h2]
  · have : slices_Index_LPair_Pair l x = some (-1) := by
      simp only [slices_Index_LPair_Pair, letO_def]
      refine (bindE_inl (y := ()) (loop_from (fun k => (k : Int)) l.length rfl (fun k hk => ?_) ?_))
      · rw [hst k hk, if_neg (fun e => hm (by rw [e, getD_lt hk]; exact List.getElem_mem hk))]
      · unfold slices_Index_LPair_Pair_L1
        rw [if_false' (dec_f (by omega))]
    rw [bind_of this, dec_f hm]
    rfl
end Go.Proofs.Ytdahfpfkjljojaa.Vc
open Go Go.Proofs.Ytdahfpfkjljojaa.Sy Go.Proofs.Ytdahfpfkjljojaa.Pu
set_option linter.unusedVariables false
set_option linter.unusedSimpArgs false
namespace Go.Proofs.Ytdahfpfkjljojaa.Vc

theorem stampsF_ok {h : List EV} (hc : chkF h = 0) : stampsF h = (stampsO h, 0) ∧ Good h ∧ StampRun h (stampsO h) := by
  refine ⟨by simp [stampsF, hc], good_of hc, gout_run (good_of hc)⟩
theorem vectorsF_ok {h : List EV} (hc : chkF h = 0) : vectorsF h = (vectorsO h, 0) ∧ Good h ∧ VectRun h (vectorsO h) := by
  refine ⟨by simp [vectorsF, hc], good_of hc, gout_run (good_of hc)⟩
theorem stampsF_no {h : List EV} (hc : chkF h ≠ 0) : stampsF h = ([], chkF h) := by simp [stampsF, hc]
theorem vectorsF_no {h : List EV} (hc : chkF h ≠ 0) : vectorsF h = ([], chkF h) := by simp [vectorsF, hc]

theorem takes_law (h : List EV) : VectTakes h = some true := by
  unfold VectTakes
  have e0 : vectorsF [((2 : Int), (2 : Int), (0 : Int), ()), ((0 : Int), (1 : Int), (0 : Int), ()), ((0 : Int), (3 : Int), (0 : Int), ())] = ([[0,0,1,0,0,0],[1,0,0,0,0,0],[2,0,1,0,0,0]], 0) := by decide +kernel
  rw [bind_of (vectors_eq _), e0, ck_in (by decide), if_false' (by decide), bind_of (vectors_eq h)]
  by_cases hc : chkF h = 0
  · obtain ⟨e1, hg, hr⟩ := vectorsF_ok hc
    generalize vectorsO h = v at e1 hr
    rw [e1, if_false' (by rfl), letO_def]
    have hl := hg.len
    have hvl : v.length = h.length := hr.len
    refine bindE_inl (y := ()) (loop_from (fun k => (k : Int)) h.length rfl (fun k hk => ?_) ?_)
    · unfold VectTakes_L1
      rw [if_true' (dec_t (by omega)), ck_in (by omega), letO_def, letO_def, ck_in (by omega), letO_def, letO_def, Int.toNat_natCast]
      generalize he : h.getD k dE = e
      have ep : evp h k = e.1 := by rw [evp, he]
      have ek : evk h k = e.2.1 := by rw [evk, he]
      have em : evm h k = e.2.2.1 := by rw [evm, he]
      obtain ⟨g1, g2, g3, g4⟩ := hg.ev k hk
      rw [ep] at g1 g2
      rw [List.drop_zero]
      have htl : (h.take k).length = k := by simp; omega
      rw [htl]
      have hloop : loopO (fun x : List Int × List Int × Int => VectTakes_L2 (v, (0 : Int)) e (h.take k) (k : Int) x.1 x.2.1 x.2.2) (z6, z6, (0 : Int)) =
          some (lastOf (fun j => evp h j == e.1) (v.getD · z6) z6 k, lastOf (fun j => (e.2.1 == (3 : Int) && evk h j == 2) && evm h j == e.2.2.1) (v.getD · z6) z6 k) := by
        refine loop_from (fun i => (lastOf (fun j => evp h j == e.1) (v.getD · z6) z6 i, lastOf (fun j => (e.2.1 == (3 : Int) && evk h j == 2) && evm h j == e.2.2.1) (v.getD · z6) z6 i, (i : Int))) k rfl (fun i hi => ?_) ?_
        · dsimp only
          unfold VectTakes_L2
          rw [if_true' (dec_t (by omega)), ck_in (by omega), letO_def, Int.toNat_natCast, getD_take hi]
          simp only [VectTakes_J3, VectTakes_J4, inc64 (show i < 1000000000000 by omega)]
          have hck : 0 ≤ (i : Int) ∧ (i : Int) < ((v.length : Nat) : Int) := by omega
          rw [Int.toNat_natCast]
          simp only [lastOf, evp, evk, evm, ck_in hck]
          rcases bdich ((h.getD i dE).1 == e.1) with a | a <;> rcases bdich ((e.2.1 == (3 : Int) && (h.getD i dE).2.1 == 2) && (h.getD i dE).2.2.1 == e.2.2.1) with b | b <;> simp only [a, b, if_true, if_false, Bool.false_eq_true]
        · dsimp only
          unfold VectTakes_L2
          rw [if_false' (dec_f (by omega))]
      rw [bind_of hloop, bind_of (max_eq _ _)]
      have hck : 0 ≤ e.1 ∧ e.1 < 6 := ⟨g1, g2⟩
      have hckk : 0 ≤ (k : Int) ∧ (k : Int) < ((v.length : Nat) : Int) := by omega
      rw [ck_in hck, ck_in hck, letO_def, ck_in hckk, inc64 (by omega)]
      have hv := hr.at_ k hk
      have hw := was_ok hg hr hk
      have key : v.getD k z6 = upV e.1 (maxV (lastOf (fun j => evp h j == e.1) (v.getD · z6) z6 k) (lastOf (fun j => (e.2.1 == (3 : Int) && evk h j == 2) && evm h j == e.2.2.1) (v.getD · z6) z6 k)) := by
        rw [hv]
        simp only [given, was, sentBy, ep, ek, em]
        simp only [was, ep] at hw
        rcases bdich (e.2.1 == (3 : Int)) with h3 | h3
        · simp only [h3, if_true, Bool.true_and]
        · simp only [h3, Bool.false_eq_true, if_false, Bool.false_and]
          have : ∀ i, lastOf (fun _ => false) (v.getD · z6) z6 i = z6 := by
            intro i
            induction i with
            | zero => rfl
            | succ i ih => simp only [lastOf, Bool.false_eq_true, if_false]; exact ih
          rw [this, maxV_z6 hw]
      rw [if_false' (by rw [(eqA6I_iff _ _).2 key]; rfl)]
    · unfold VectTakes_L1
      rw [if_false' (dec_f (by omega))]
  · rw [vectorsF_no hc, if_true' (by simpa using hc)]
    rfl

/-! ### VectCounts -/
def vsum (x : List Int) : Nat → Int
  | 0 => 0
  | k + 1 => arR .add .i64 (vsum x k) (x.getD k 0)
theorem vsum_eq {x : List Int} {b : Int} (hx : VOk x b) (hb : b ≤ 1000) : ∀ k, k ≤ 6 → 0 ≤ vsum x k ∧ vsum x k ≤ k * 1000
  | 0, _ => by simp [vsum]
  | k + 1, hk => by
    have ih := vsum_eq hx hb k (by omega)
    have := hx.2 k (by omega)
    simp only [vsum]
    rw [add64 (by omega) (by omega)]
    omega
theorem vsum_succ {x : List Int} {b : Int} (hx : VOk x b) (hb : b ≤ 1000) {k : Nat} (hk : k < 6) : vsum x (k + 1) = vsum x k + x.getD k 0 := by
  have ih := vsum_eq hx hb k (by omega)
  have := hx.2 k (by omega)
  simp only [vsum]
  exact add64 (by omega) (by omega)
theorem vsum_mono {x y : List Int} {b : Int} (hx : VOk x b) (hy : VOk y b) (hb : b ≤ 1000) (h : ∀ j, j < 6 → x.getD j 0 ≤ y.getD j 0) : ∀ k, k ≤ 6 → vsum x k ≤ vsum y k
  | 0, _ => Int.le_refl _
  | k + 1, hk => by
    rw [vsum_succ hx hb (by omega), vsum_succ hy hb (by omega)]
    have := vsum_mono hx hy hb h k (by omega)
    have := h k (by omega)
    omega
theorem vsum_up {x y : List Int} {b : Int} (hx : VOk x b) (hy : VOk y b) (hb : b ≤ 1000) (p : Nat) (h : ∀ j, j < 6 → y.getD j 0 = x.getD j 0 + if j = p then 1 else 0) : ∀ k, k ≤ 6 → vsum y k = vsum x k + if p < k then 1 else 0
  | 0, _ => by simp [vsum]
  | k + 1, hk => by
    rw [vsum_succ hx hb (by omega), vsum_succ hy hb (by omega)]
    have := vsum_up hx hy hb p h k (by omega)
    have := h k (by omega)
    split at * <;> split at * <;> split <;> omega
theorem stamp_sum {h : List EV} {s : List Int} {v : List (List Int)} (hg : Good h) (hs : StampRun h s) (hv : VectRun h v) : ∀ k, k < h.length → s.getD k 0 ≤ vsum (v.getD k z6) 6 := by
  intro k
  induction k using Nat.strongRecOn with
  | _ k ih =>
    intro hk
    have hl := hg.len
    obtain ⟨g1, g2, _, _⟩ := hg.ev k hk
    have hvb := vect_bound hg hv k hk
    have hsb := stamp_bound hg hs k hk
    have R0 : (0 : Int) ≤ vsum z6 6 := by decide +kernel
    have hW : was (0 : Int) h (s.getD · 0) k ≤ vsum (was z6 h (v.getD · z6) k) 6 := lastOf_rel (fun (a : Int) b => a ≤ vsum b 6) R0 fun j hj _ => ih j hj (by omega)
    have hN : sentBy (0 : Int) h (s.getD · 0) k ≤ vsum (sentBy z6 h (v.getD · z6) k) 6 := lastOf_rel (fun (a : Int) b => a ≤ vsum b 6) R0 fun j hj _ => ih j hj (by omega)
    have hwb : 0 ≤ was (0 : Int) h (s.getD · 0) k ∧ was (0 : Int) h (s.getD · 0) k ≤ k := lastOf_prop (fun x => 0 ≤ x ∧ x ≤ (k : Int)) ⟨Int.le_refl _, by omega⟩ fun j hj _ => by have := stamp_bound hg hs j (by omega); omega
    have hnb : 0 ≤ sentBy (0 : Int) h (s.getD · 0) k ∧ sentBy (0 : Int) h (s.getD · 0) k ≤ k := lastOf_prop (fun x => 0 ≤ x ∧ x ≤ (k : Int)) ⟨Int.le_refl _, by omega⟩ fun j hj _ => by have := stamp_bound hg hs j (by omega); omega
    have vw := was_ok hg hv hk
    have vn := sent_ok hg hv hk
    have hkb : (k : Int) ≤ 1000 := by omega
    have hat := fun j (hj : j < 6) => vect_at hg hv hk hj
    rw [hs.at_ k hk]
    simp only [given, upI]
    rcases bdich (evk h k == (3 : Int)) with h3 | h3
    · simp only [h3, if_true] at hat ⊢
      have hm := mxI_cases (was (0 : Int) h (s.getD · 0) k) (sentBy (0 : Int) h (s.getD · 0) k)
      have vm := maxV_ok vw vn
      have e := vsum_up (x := maxV (was z6 h (v.getD · z6) k) (sentBy z6 h (v.getD · z6) k)) (y := v.getD k z6) (b := k + 1) (vm.mono (by omega)) hvb (by omega) (evp h k).toNat (fun j hj => by rw [hat j hj, maxV_at vw.1 hj]) 6 (by omega)
      rw [if_pos (by omega)] at e
      have m1 := vsum_mono vw vm hkb (fun j hj => by rw [maxV_at vw.1 hj]; exact (mxI_cases _ _).1.1) 6 (by omega)
      have m2 := vsum_mono vn vm hkb (fun j hj => by rw [maxV_at vw.1 hj]; exact (mxI_cases _ _).1.2) 6 (by omega)
      rw [inc_eq (by omega) (by omega)]
      omega
    · simp only [h3, Bool.false_eq_true, if_false] at hat ⊢
      have e := vsum_up (x := was z6 h (v.getD · z6) k) (y := v.getD k z6) (b := k + 1) (vw.mono (by omega)) hvb (by omega) (evp h k).toNat (fun j hj => hat j hj) 6 (by omega)
      rw [if_pos (by omega)] at e
      rw [inc_eq (by omega) (by omega)]
      omega
/-- The counts that the law keeps. -/
def cntV (h : List EV) (k : Nat) : List Int := (List.range 6).map fun j : Nat => cnt h (j : Int) k
theorem cntV_at {h : List EV} {k j : Nat} (hj : j < 6) : (cntV h k).getD j 0 = cnt h (j : Int) k := by
  simp [cntV, List.getD_eq_getElem?_getD, hj]
theorem counts_law (h : List EV) : VectCounts h = some true := by
  unfold VectCounts
  have e0 : vectorsF [((2 : Int), (1 : Int), (0 : Int), ()), ((2 : Int), (1 : Int), (0 : Int), ())] = ([[0,0,1,0,0,0],[0,0,2,0,0,0]], 0) := by decide +kernel
  rw [bind_of (vectors_eq _), e0, ck_in (by decide), if_false' (by decide), bind_of (vectors_eq h), bind_of (stamps_eq h)]
  by_cases hc : chkF h = 0
  · obtain ⟨e1, hg, hr⟩ := vectorsF_ok hc
    obtain ⟨e2, _, hs⟩ := stampsF_ok hc
    generalize vectorsO h = v at e1 hr
    generalize stampsO h = s at e2 hs
    rw [e1, e2, if_false' (by rfl), letO_def, letO_def]
    have hl := hg.len
    have hvl : v.length = h.length := hr.len
    have hsl : s.length = h.length := hs.len
    refine bindE_inl (y := ()) (loop_from (fun k => (cntV h k, (k : Int))) h.length (by rfl) (fun k hk => ?_) ?_)
    · dsimp only
      unfold VectCounts_L1
      obtain ⟨g1, g2, _, _⟩ := hg.ev k hk
      have hvb := vect_bound hg hr k hk
      have hcn := vect_count hg hr k hk
      have hst := stamp_sum hg hs hr k hk
      rw [if_true' (dec_t (by omega)), ck_in (by omega), letO_def, Int.toNat_natCast]
      have hck : 0 ≤ evp h k ∧ evp h k < 6 := ⟨g1, g2⟩
      have hckk : 0 ≤ (k : Int) ∧ (k : Int) < ((v.length : Nat) : Int) := by omega
      have hcks : 0 ≤ (k : Int) ∧ (k : Int) < ((s.length : Nat) : Int) := by omega
      rw [ck_in hck, ck_in hck, letO_def, ck_in hckk, letO_def]
      have hloop : loopO (fun x : Int × Int => VectCounts_L2 (v.getD k z6) x.1 x.2) ((0 : Int), (0 : Int)) = some (vsum (v.getD k z6) 6) := by
        refine loop_from (fun i => (vsum (v.getD k z6) i, (i : Int))) 6 rfl (fun i hi => ?_) rfl
        dsimp only
        unfold VectCounts_L2
        rw [if_true' (dec_t (by omega)), ck_in (by omega), letO_def, letO_def, inc64 (by omega), Int.toNat_natCast]
        rfl
      rw [bind_of hloop, ck_in hckk, ck_in hck, ck_in hck, ck_in (fun _ => hcks), ck_in (fun _ => hckk), within_eq, letO_def]
      simp only [Option.isSome_some, implies_true, ck, if_true, Option.getD_some]
      have hn : (cntV h k).set (evp h k).toNat (arR .add .i64 ((cntV h k).getD (evp h k).toNat 0) 1) = cntV h (k + 1) := by
        have hc1 := cnt_le (h := h) (p := evp h k) k
        have hc0 := cnt_nonneg (h := h) (p := evp h k) (k := k)
        refine ext_getD 0 (by simp [cntV]) fun j hj => ?_
        have hj6 : j < 6 := by simpa [cntV] using hj
        rw [getD_setD (by simp [cntV]; omega), cntV_at (by omega), cntV_at hj6, cntV_at hj6, Int.toNat_of_nonneg g1, add64 (by omega) (by omega)]
        simp only [cnt]
        by_cases e : j = (evp h k).toNat
        · rw [if_pos e, if_pos (by omega), e, Int.toNat_of_nonneg g1]
        · rw [if_neg e, if_neg (by omega)]; omega
      rw [hn]
      have hw : withinF (v.getD k z6) (cntV h (k + 1)) = true := within_iff.2 fun j hj => by
        rw [cntV_at hj]
        exact hcn.1 (j : Int) (by omega) (by omega)
      rw [if_false' ?_, inc64 (by omega)]
      simp only [hw, Bool.not_true, Bool.or_false]
      have hcv := cntV_at (h := h) (k := k + 1) (show (evp h k).toNat < 6 by omega)
      rw [Int.toNat_of_nonneg g1] at hcv
      have h1 : ((v.getD k z6).getD (evp h k).toNat 0 != (cntV h (k + 1)).getD (evp h k).toNat 0) = false := by rw [hcv, hcn.2]; simp
      have h2 : decide (s.getD k 0 > vsum (v.getD k z6) 6) = false := dec_f (by omega)
      exact Bool.or_eq_false_iff.2 ⟨h1, h2⟩
    · dsimp only
      unfold VectCounts_L1
      rw [if_false' (dec_f (by omega))]
  · rw [vectorsF_no hc, stampsF_no hc, if_true' (by simpa using hc)]
    simp
end Go.Proofs.Ytdahfpfkjljojaa.Vc
open Go Go.Proofs.Ytdahfpfkjljojaa.Sy Go.Proofs.Ytdahfpfkjljojaa.Pu
set_option linter.unusedVariables false
set_option linter.unusedSimpArgs false
namespace Go.Proofs.Ytdahfpfkjljojaa.Vc

/-! ### Local events of one process -/
abbrev loc1 : EV := ((0 : Int), (1 : Int), (0 : Int), ())
theorem loc_chk : ∀ (n : Nat) (s : List Int) (g : List (List Bool)), chkL (List.replicate n loc1) s g = 0
  | 0, _, _ => rfl
  | n + 1, s, g => by
    rw [List.replicate_succ]
    simp only [chkL]
    rw [if_false' (by decide), if_true' (by decide), if_false' (by decide)]
    exact loc_chk n s g
theorem loc_chkF {n : Nat} (hn : n ≤ 60) : chkF (List.replicate n loc1) = 0 := by
  simp only [chkF]
  rw [if_false' (dec_f (by simp; omega))]
  exact loc_chk n _ _
theorem loc_stamp {n : Nat} {s : List Int} (hn : n ≤ 60) (hs : StampRun (List.replicate n loc1) s) : ∀ k, k < n → s.getD k 0 = k + 1 := by
  intro k
  induction k with
  | zero =>
    intro hk
    rw [hs.at_ 0 (by simpa using hk)]
    have : evk (List.replicate n loc1) 0 = 1 := by rw [evk, getD_rep' hk]
    simp only [given, this]
    rw [if_false' (by decide)]
    simp only [was, lastOf]
    show inc1 0 = _
    decide
  | succ k ih =>
    intro hk
    rw [hs.at_ (k + 1) (by simpa using hk)]
    have e1 : evk (List.replicate n loc1) (k + 1) = 1 := by rw [evk, getD_rep' hk]
    have e2 : evp (List.replicate n loc1) (k + 1) = 0 := by rw [evp, getD_rep' hk]
    have e3 : evp (List.replicate n loc1) k = 0 := by rw [evp, getD_rep' (by omega)]
    simp only [given, e1]
    rw [if_false' (by decide)]
    simp only [was, lastOf]
    rw [if_true' (by rw [e2, e3]; decide), ih (by omega)]
    show inc1 _ = _
    rw [inc_eq (by omega) (by omega)]
    omega
theorem bound_law (h : List EV) (n : Int) : StampBound h n = some true := by
  unfold StampBound
  have e0 : stampsF [((0 : Int), (1 : Int), (0 : Int), ()), ((0 : Int), (1 : Int), (0 : Int), ())] = ([1, 2], 0) := by decide +kernel
  rw [bind_of (stamps_eq _), e0, equalI_eq _ _ (by decide), letO_def, ck_in (fun _ => by rfl), if_false' (by decide), bind_of (stamps_eq h), letO_def]
  -- the bound
  have h1 : loopO (fun x : Int => StampBound_L1 (stampsF h) ((stampsF h).1.length : Int) x) (0 : Int) = some (.inl ()) := by
    refine loop_from (fun k => (k : Int)) (stampsF h).1.length rfl (fun k hk => ?_) ?_
    · by_cases hc : chkF h = 0
      · obtain ⟨e1, hg, hs⟩ := stampsF_ok hc
        rw [e1] at hk ⊢
        dsimp only at hk ⊢
        generalize stampsO h = s at hk hs
        have hsl : s.length = h.length := hs.len
        have hl := hg.len
        have hb := stamp_bound hg hs k (by omega)
        unfold StampBound_L1
        dsimp only
        rw [if_true' (dec_t (by omega)), ck_in (by omega), letO_def, Int.toNat_natCast, inc64 (by omega), if_false' ?_]
        rw [Bool.or_eq_false_iff]
        exact ⟨dec_f (by omega), dec_f (by omega)⟩
      · rw [stampsF_no hc] at hk
        simp at hk
    · unfold StampBound_L1
      rw [if_false' (dec_f (by omega))]
  rw [bindE_inl h1, bind_of (rest_eq n 61 (by decide) (by decide))]
  have hm := Int.emod_nonneg n (show (61 : Int) ≠ 0 by decide)
  have hm2 := Int.emod_lt_of_pos n (show (0 : Int) < 61 by decide)
  obtain ⟨m, hmn⟩ : ∃ m : Nat, n % 61 = (m : Int) := ⟨(n % 61).toNat, by omega⟩
  rw [hmn, ck_in (by omega), ck_in (le_maxL (by omega)), letO_def, letO_def, Int.toNat_natCast]
  have hm60 : m ≤ 60 := by omega
  simp only [List.length_replicate]
  obtain ⟨z, hz1, hz2⟩ := loop_count (B := fun x : List EV × Int => StampBound_L2 (m : Int) x.1 x.2) (fun k x => x.2 = (k : Int) ∧ x.1.length = m ∧ ∀ j, j < m → x.1.getD j dE = if j < k then loc1 else dE) m (fun z => z = List.replicate m loc1) (x := (List.replicate m dE, (0 : Int))) ⟨rfl, by simp, fun j hj => by rw [getD_rep' hj]; rfl⟩ (by
      rintro k ⟨l, i⟩ hk ⟨e1, e2, e3⟩
      dsimp only at e1 e2 e3
      subst e1
      unfold StampBound_L2
      dsimp only
      rw [if_true' (dec_t (by omega)), ck_in (by omega), letO_def, inc64 (by omega), Int.toNat_natCast]
      refine ⟨_, rfl, rfl, by simpa using e2, fun j hj => ?_⟩
      dsimp only
      rw [getD_setD (by omega), e3 k hk, if_neg (Nat.lt_irrefl k), e3 j hj]
      by_cases h : j = k
      · subst h; rw [if_pos rfl, if_pos (by omega)]
      · rw [if_neg h]
        by_cases h2 : j < k
        · rw [if_pos h2, if_pos (by omega)]
        · rw [if_neg h2, if_neg (by omega)]) (by
      rintro ⟨l, i⟩ ⟨e1, e2, e3⟩
      dsimp only at e1 e2 e3
      subst e1
      unfold StampBound_L2
      dsimp only
      rw [if_false' (dec_f (by omega))]
      refine ⟨_, rfl, ext_getD dE (by simp [e2]) fun j hj => ?_⟩
      rw [e3 j (by omega), if_pos (by omega), getD_rep' (by omega)])
  subst hz2
  rw [bind_of hz1, bind_of (stamps_eq _)]
  obtain ⟨e1, hg, hs⟩ := stampsF_ok (loc_chkF hm60)
  rw [e1]
  generalize stampsO (List.replicate m loc1) = s at hs
  have hsl : s.length = m := by rw [hs.len]; simp
  rw [letO_def]
  have h2 : loopO (fun x : Int => StampBound_L3 (s, (0 : Int)) (s.length : Int) x) (0 : Int) = some (.inl ()) := by
    refine loop_from (fun k => (k : Int)) s.length rfl (fun k hk => ?_) ?_
    · have hb := loc_stamp hm60 hs k (by omega)
      unfold StampBound_L3
      dsimp only
      rw [if_true' (dec_t (by omega)), ck_in (by omega), letO_def, Int.toNat_natCast, inc64 (by omega), hb, if_false' ?_]
      simp
    · unfold StampBound_L3
      rw [if_false' (dec_f (by omega))]
  rw [bindE_inl h2]
  simp only [hsl, List.length_replicate]
  by_cases hc : chkF h = 0
  · obtain ⟨e2, hg2, hs2⟩ := stampsF_ok hc
    rw [e2]
    simp [hs2.len]
  · rw [stampsF_no hc]
    simp [hc]

/-! ### What comes later changes nothing -/
theorem chkL_front : ∀ (l r : List EV) (s : List Int) (g : List (List Bool)), chkL (l ++ r) s g = 0 → chkL l s g = 0
  | [], _, _, _, _ => rfl
  | e :: l, r, s, g, h => by
    simp only [List.cons_append, chkL] at h ⊢
    split at h
    · exact absurd h (by decide)
    rename_i c; rw [if_neg c]
    split at h
    · rename_i c; rw [if_pos c]
      split at h
      · exact absurd h (by decide)
      · rename_i c; rw [if_neg c]; exact chkL_front l r _ _ h
    rename_i c; rw [if_neg c]
    split at h
    · rename_i c; rw [if_pos c]
      split at h
      · exact absurd h (by decide)
      · rename_i c; rw [if_neg c]; exact chkL_front l r _ _ h
    rename_i c; rw [if_neg c]
    split at h
    · rename_i c; rw [if_pos c]
      split at h
      · exact absurd h (by decide)
      · rename_i c; rw [if_neg c]; exact chkL_front l r _ _ h
    · exact absurd h (by decide)
theorem chkF_front {h : List EV} (hc : chkF h = 0) (n : Nat) : chkF (h.take n) = 0 := by
  have hl := (good_of hc).len
  simp only [chkF] at hc ⊢
  rw [if_false' (dec_f (by omega))] at hc
  rw [if_false' (dec_f (by simp only [List.length_take]; omega))]
  exact chkL_front (h.take n) (h.drop n) _ _ (by rw [List.take_append_drop]; exact hc)
theorem gout_front {α : Type} {z : α} {mx : α → α → α} {up : Int → α → α} {h : List EV} (hg : Good h) {n : Nat} (hn : n ≤ h.length) : gout z mx up (h.take n) = (gout z mx up h).take n := by
  have key : ∀ m, n + m ≤ h.length → (grun z mx up h (n + m)).2.2.take n = (grun z mx up h n).2.2 := by
    intro m
    induction m with
    | zero =>
      intro hm
      rw [Nat.add_zero]
      exact List.take_of_length_le (by rw [(runI (z := z) (mx := mx) (up := up) h hg n hn).l3]; exact Nat.le_refl n)
    | succ m ih =>
      intro hm
      rw [← ih (by omega), ← Nat.add_assoc, grun_succ z mx up h (n + m) (by omega)]
      have hl := (runI (z := z) (mx := mx) (up := up) h hg (n + m) (by omega)).l3
      simp only [gstep]
      rw [List.take_append_of_le_length (by omega)]
  have := key (h.length - n) (by omega)
  rw [show n + (h.length - n) = h.length by omega] at this
  unfold gout
  rw [this]
  have hl : (h.take n).length = n := by simp; omega
  rw [hl]
  unfold grun
  rw [List.take_take, Nat.min_self]
theorem front_law (h : List EV) (k : Int) : StampFront h k = some true := by
  unfold StampFront
  have e0 : stampsF [((0 : Int), (1 : Int), (0 : Int), ())] = ([1], 0) := by decide +kernel
  rw [bind_of (stamps_eq _), e0, equalI_eq _ _ (by decide), letO_def, ck_in (fun _ => by rfl), if_false' (by decide), bind_of (stamps_eq h), bind_of (vectors_eq h)]
  by_cases hc : chkF h = 0
  · obtain ⟨e1, hg, hs⟩ := stampsF_ok hc
    obtain ⟨e2, _, hv⟩ := vectorsF_ok hc
    have hl := hg.len
    rw [e1, e2, if_false' (by rfl)]
    rw [add64 (by omega) (by omega), bind_of (rest_eq k ((h.length : Int) + 1) (by omega) (by omega))]
    have hm := Int.emod_nonneg k (show (h.length : Int) + 1 ≠ 0 by omega)
    have hm2 := Int.emod_lt_of_pos k (show (0 : Int) < (h.length : Int) + 1 by omega)
    obtain ⟨n, hn⟩ : ∃ n : Nat, k % ((h.length : Int) + 1) = (n : Int) := ⟨(k % ((h.length : Int) + 1)).toNat, by omega⟩
    rw [hn]
    have hnl : n ≤ h.length := by omega
    obtain ⟨f1, _, _⟩ := stampsF_ok (chkF_front hc n)
    obtain ⟨f2, _, _⟩ := vectorsF_ok (chkF_front hc n)
    have hsl : (stampsO h).length = h.length := hs.len
    have hvl : (vectorsO h).length = h.length := hv.len
    rw [ck_in (by omega), Int.toNat_natCast, List.drop_zero, bind_of (stamps_eq _), ck_in (by omega), bind_of (vectors_eq _), f1, f2, ck_in (fun _ => by dsimp only; omega)]
    dsimp only
    rw [show stampsO (h.take n) = (stampsO h).take n from gout_front hg hnl, show vectorsO (h.take n) = (vectorsO h).take n from gout_front hg hnl, List.drop_zero, List.drop_zero, equalI_eq _ _ (by simp; omega), equalV_eq _ _ (by simp; omega), letO_def, ck_in (fun _ => by rfl), ck_in (fun _ => by omega), letO_def, ck_in (fun _ => by rfl)]
    simp
  · rw [stampsF_no hc, vectorsF_no hc, if_true' (by simpa using hc)]
    simp
end Go.Proofs.Ytdahfpfkjljojaa.Vc
open Go Go.Proofs.Ytdahfpfkjljojaa.Sy Go.Proofs.Ytdahfpfkjljojaa.Pu
set_option linter.unusedVariables false
set_option linter.unusedSimpArgs false
namespace Go.Proofs.Ytdahfpfkjljojaa.Vc

/-! ### Each message is sent once -/
theorem chkL_drop : ∀ (i : Nat) (l : List EV) (s : List Int) (g : List (List Bool)), chkL l s g = 0 → s.length = 30 → ∃ s' g', chkL (l.drop i) s' g' = 0 ∧ s'.length = 30
  | 0, l, s, g, h, hs => ⟨s, g, h, hs⟩
  | i + 1, [], s, g, h, hs => ⟨s, g, rfl, hs⟩
  | i + 1, e :: r, s, g, h, hs => by
    simp only [chkL] at h
    simp only [List.drop_succ_cons]
    split at h
    · exact absurd h (by decide)
    split at h
    · split at h
      · exact absurd h (by decide)
      · exact chkL_drop i r _ _ h hs
    split at h
    · split at h
      · exact absurd h (by decide)
      · exact chkL_drop i r _ _ h (by simpa using hs)
    split at h
    · split at h
      · exact absurd h (by decide)
      · exact chkL_drop i r _ _ h hs
    · exact absurd h (by decide)
theorem chkL_sent : ∀ (l : List EV) (s : List Int) (g : List (List Bool)) (m : Nat), chkL l s g = 0 → s.length = 30 → s.getD m 0 ≠ 0 → ∀ e ∈ l, ¬ (e.2.1 = 2 ∧ e.2.2.1.toNat = m)
  | [], _, _, _, _, _, _ => fun e he => by cases he
  | e :: r, s, g, m, h, hs, hm => by
    simp only [chkL] at h
    rcases bdich (badB e) with hb | hb
    · rw [if_true' hb] at h; exact absurd h (by decide)
    rw [if_false' hb] at h
    obtain ⟨b1, b2, b3, b4⟩ := bad_out hb
    have key : ∀ s' g', chkL r s' g' = 0 → s'.length = 30 → s'.getD m 0 ≠ 0 → ¬ (e.2.1 = 2 ∧ e.2.2.1.toNat = m) → ∀ e' ∈ e :: r, ¬ (e'.2.1 = 2 ∧ e'.2.2.1.toNat = m) := by
      intro s' g' h1 h2 h3 h4 e' he'
      rcases List.mem_cons.1 he' with rfl | he'
      · exact h4
      · exact chkL_sent r s' g' m h1 h2 h3 e' he'
    split at h
    · rename_i k1
      split at h
      · exact absurd h (by decide)
      · exact key _ _ h hs hm (fun hh => by rw [hh.1] at k1; exact absurd k1 (by decide))
    split at h
    · split at h
      · exact absurd h (by decide)
      · rename_i hz
        have hz : s.getD e.2.2.1.toNat 0 = 0 := by simpa using hz
        have hne : e.2.2.1.toNat ≠ m := fun e1 => hm (e1 ▸ hz)
        refine key _ _ h (by simpa using hs) ?_ (fun hh => hne hh.2)
        rw [getD_setD (by omega), if_neg (fun h => hne h.symm)]
        exact hm
    split at h
    · rename_i k3
      split at h
      · exact absurd h (by decide)
      · exact key _ _ h hs hm (fun hh => by rw [hh.1] at k3; exact absurd k3 (by decide))
    · exact absurd h (by decide)
theorem send_once {h : List EV} (hc : chkF h = 0) {i j : Nat} (hij : i < j) (hj : j < h.length) (hi2 : evk h i = 2) (hj2 : evk h j = 2) : evm h i ≠ evm h j := by
  intro hm
  have hl := (good_of hc).len
  simp only [chkF] at hc
  rw [if_false' (dec_f (by omega))] at hc
  obtain ⟨s, g, h1, h2⟩ := chkL_drop i h _ _ hc (by simp)
  rw [drop_at (by omega)] at h1
  generalize he : h.getD i dE = e at h1
  have ek : e.2.1 = 2 := by rw [← he]; exact hi2
  have em : e.2.2.1 = evm h j := by rw [← he]; exact hm
  simp only [chkL] at h1
  rcases bdich (badB e) with hb | hb
  · rw [if_true' hb] at h1; exact absurd h1 (by decide)
  rw [if_false' hb] at h1
  obtain ⟨b1, b2, b3, b4⟩ := bad_out hb
  rw [if_false' (by rw [ek]; decide), if_true' (by rw [ek]; decide)] at h1
  split at h1
  · exact absurd h1 (by decide)
  refine chkL_sent (h.drop (i + 1)) _ g e.2.2.1.toNat h1 (by simpa using h2) ?_ (h.getD j dE) ?_ ⟨hj2, by rw [em]⟩
  · rw [getD_setD (by omega), if_pos rfl, inc_eq (by omega) (by omega)]
    omega
  · rw [mem_getD (d := dE)]
    refine ⟨j - (i + 1), by simp; omega, ?_⟩
    simp only [List.getD_eq_getElem?_getD, List.getElem?_drop]
    rw [show i + 1 + (j - (i + 1)) = j by omega]

/-! ### Before -/
def dirB (h : List EV) (i k : Nat) : Bool := (evp h i == evp h k) || (((evk h k == (3 : Int)) && (evk h i == (2 : Int))) && (evm h i == evm h k))
inductive Hb (h : List EV) : Nat → Nat → Prop
  | step {i k : Nat} : i < k → dirB h i k = true → Hb h i k
  | trans {i m k : Nat} : Hb h i m → m < k → dirB h m k = true → Hb h i k
theorem Hb.lt {h : List EV} {i k : Nat} (hh : Hb h i k) : i < k := by
  induction hh with
  | step h1 _ => exact h1
  | trans _ h1 _ ih => omega
theorem hb_iff {h : List EV} {i k : Nat} : Hb h i k ↔ ∃ m, m < k ∧ dirB h m k = true ∧ (i = m ∨ Hb h i m) := by
  constructor
  · intro hh
    cases hh with
    | step h1 h2 => exact ⟨i, h1, h2, .inl rfl⟩
    | trans h1 h2 h3 => exact ⟨_, h2, h3, .inr h1⟩
  · rintro ⟨m, h1, h2, rfl | h3⟩
    · exact .step h1 h2
    · exact .trans h3 h1 h2
/-- A matrix that is another one but for a row. -/
structure RowOf (M M' : List (List Bool)) (n k : Nat) (f : Nat → Prop) : Prop where
  len : M'.length = n
  other : ∀ r, r ≠ k → M'.getD r [] = M.getD r []
  rl : (M'.getD k []).length = n
  row : ∀ x, x < n → ((M'.getD k []).getD x false = true ↔ f x)
theorem row_set {M M0 : List (List Bool)} {n k : Nat} {f : Nat → Prop} (h : RowOf M0 M n k f) (hk : k < n) {x : Nat} (hx : x < n) (b : Bool) : RowOf M0 (M.set k ((M.getD k []).set x b)) n k (fun y => if y = x then b = true else f y) := by
  have hl := h.len
  have hrl := h.rl
  refine ⟨by simpa using hl, fun r hr => ?_, ?_, fun y hy => ?_⟩
  · rw [getD_setD (by omega), if_neg hr]; exact h.other r hr
  · rw [getD_setD (by omega), if_pos rfl]; simpa using hrl
  · rw [getD_setD (by omega), if_pos rfl, getD_setD (by omega)]
    by_cases e : y = x
    · rw [if_pos e, if_pos e]
    · rw [if_neg e, if_neg e]; exact h.row y hy
theorem RowOf.congr {M M' : List (List Bool)} {n k : Nat} {f g : Nat → Prop} (h : RowOf M M' n k f) (hg : ∀ x, x < n → (f x ↔ g x)) : RowOf M M' n k g := ⟨h.len, h.other, h.rl, fun x hx => (h.row x hx).trans (hg x hx)⟩
theorem ahead_L4 {M0 M : List (List Bool)} {n k a : Nat} {f : Nat → Prop} (hn : n ≤ 60) (hk : k < n) (ha : a < k) (h : RowOf M0 M n k f) (hral : (M0.getD a []).length = n) :
    ∃ M', loopO (fun x : List (List Bool) × Int => stamp_Ahead_L4 (k : Int) (a : Int) x.1 x.2) (M, (0 : Int)) = some M' ∧ RowOf M0 M' n k (fun x => f x ∨ (x < a ∧ (M0.getD a []).getD x false = true)) := by
  refine loop_count (fun j x => x.2 = (j : Int) ∧ RowOf M0 x.1 n k (fun y => f y ∨ (y < j ∧ (M0.getD a []).getD y false = true))) a _ ⟨rfl, h.congr fun x _ => by simp⟩ ?_ ?_
  · rintro j ⟨Mj, jj⟩ hj ⟨e1, e2⟩
    dsimp only at e1 e2
    subst e1
    have hl := e2.len
    have hrl := e2.rl
    have hra : Mj.getD a [] = M0.getD a [] := e2.other a (by omega)
    have hck1 : 0 ≤ (k : Int) ∧ (k : Int) < ((Mj.length : Nat) : Int) := by omega
    have hck2 : 0 ≤ (j : Int) ∧ (j : Int) < (((Mj.getD k []).length : Nat) : Int) := by omega
    have hck3 : 0 ≤ (a : Int) ∧ (a : Int) < ((Mj.length : Nat) : Int) := by omega
    have hck4 : 0 ≤ (j : Int) ∧ (j : Int) < (((Mj.getD a []).length : Nat) : Int) := by rw [hra]; omega
    unfold stamp_Ahead_L4
    dsimp only
    rw [if_true' (dec_t (by omega)), ck_in hck1, ck_in hck1]
    simp only [Int.toNat_natCast]
    rw [ck_in hck2, ck_in (fun _ => hck3), ck_in (fun _ => hck4), ck_in hck2, letO_def, inc64 (by omega)]
    refine ⟨_, rfl, rfl, ?_⟩
    refine (row_set e2 hk (show j < n by omega) _).congr fun x hx => ?_
    rw [Bool.or_eq_true, e2.row j (by omega), hra]
    by_cases e : x = j
    · subst e
      rw [if_pos rfl]
      constructor
      · rintro ((h | ⟨h, _⟩) | h)
        · exact .inl h
        · omega
        · exact .inr ⟨by omega, h⟩
      · rintro (h | ⟨_, h⟩)
        · exact .inl (.inl h)
        · exact .inr h
    · rw [if_neg e]
      constructor
      · rintro (h | ⟨h1, h2⟩)
        · exact .inl h
        · exact .inr ⟨by omega, h2⟩
      · rintro (h | ⟨h1, h2⟩)
        · exact .inl h
        · exact .inr ⟨by omega, h2⟩
  · rintro ⟨Mj, jj⟩ ⟨e1, e2⟩
    dsimp only at e1 e2
    subst e1
    unfold stamp_Ahead_L4
    dsimp only
    rw [if_false' (dec_f (by omega))]
    exact ⟨_, rfl, e2⟩
theorem ahead_L2 {h : List EV} (hn : h.length ≤ 60) {M0 M : List (List Bool)} {k : Nat} (hk : k < h.length) (hM : RowOf M0 M h.length k (fun _ => False)) (hrows : ∀ r, r < k → (M0.getD r []).length = h.length ∧ ∀ x, x < h.length → ((M0.getD r []).getD x false = true ↔ Hb h x r)) :
    ∃ M', loopO (fun x : List (List Bool) × Int => stamp_Ahead_L2 (k : Int) (h.getD k dE) (h.take k) (k : Int) x.1 x.2) (M, (0 : Int)) = some M' ∧ RowOf M0 M' h.length k (fun x => Hb h x k) := by
  obtain ⟨M', h1, h2⟩ := loop_count (B := fun x : List (List Bool) × Int => stamp_Ahead_L2 (k : Int) (h.getD k dE) (h.take k) (k : Int) x.1 x.2) (fun a x => x.2 = (a : Int) ∧ RowOf M0 x.1 h.length k (fun y => ∃ m, m < a ∧ dirB h m k = true ∧ (y = m ∨ Hb h y m))) k (fun M' => RowOf M0 M' h.length k (fun y => ∃ m, m < k ∧ dirB h m k = true ∧ (y = m ∨ Hb h y m))) (x := (M, (0 : Int))) ⟨rfl, hM.congr fun x _ => by simp⟩ (by
      rintro a ⟨Ma, aa⟩ ha ⟨e1, e2⟩
      dsimp only at e1 e2
      subst e1
      have hl := e2.len
      have hrl := e2.rl
      have htk : (h.take k).length = k := by simp; omega
      unfold stamp_Ahead_L2
      dsimp only
      rw [if_true' (dec_t (by omega)), ck_in (by omega), letO_def, Int.toNat_natCast, getD_take ha]
      have hd : (((h.getD a dE).1 == (h.getD k dE).1) || ((((h.getD k dE).2.1 == (3 : Int)) && ((h.getD a dE).2.1 == (2 : Int))) && ((h.getD a dE).2.2.1 == (h.getD k dE).2.2.1))) = dirB h a k := rfl
      rw [hd]
      simp only [stamp_Ahead_J3, inc64 (show a < 1000000000000 by omega)]
      rcases bdich (dirB h a k) with hb | hb
      · rw [if_true' hb, ck_in (by omega)]
        simp only [Int.toNat_natCast]
        rw [ck_in (by omega), letO_def]
        have hs := row_set e2 hk (show a < h.length by omega) true
        obtain ⟨M2, g1, g2⟩ := ahead_L4 hn hk ha hs (hrows a ha).1
        rw [bind_of g1]
        refine ⟨_, rfl, rfl, g2.congr fun x hx => ?_⟩
        rw [(hrows a ha).2 x hx]
        constructor
        · rintro (h1 | ⟨h1, h2⟩)
          · by_cases e : x = a
            · exact ⟨a, by omega, hb, .inl e⟩
            · rw [if_neg e] at h1
              obtain ⟨m, m1, m2, m3⟩ := h1
              exact ⟨m, by omega, m2, m3⟩
          · exact ⟨a, by omega, hb, .inr h2⟩
        · rintro ⟨m, m1, m2, m3⟩
          by_cases em : m = a
          · subst em
            rcases m3 with e | m3
            · exact .inl (by rw [if_pos e])
            · exact .inr ⟨m3.lt, m3⟩
          · refine .inl ?_
            by_cases e : x = a
            · rw [if_pos e]
            · rw [if_neg e]; exact ⟨m, by omega, m2, m3⟩
      · rw [if_false' hb]
        refine ⟨_, rfl, rfl, e2.congr fun x hx => ?_⟩
        constructor
        · rintro ⟨m, m1, m2, m3⟩; exact ⟨m, by omega, m2, m3⟩
        · rintro ⟨m, m1, m2, m3⟩
          have : m ≠ a := fun e => by subst e; rw [hb] at m2; cases m2
          exact ⟨m, by omega, m2, m3⟩) (by
      rintro ⟨Ma, aa⟩ ⟨e1, e2⟩
      dsimp only at e1 e2
      subst e1
      unfold stamp_Ahead_L2
      dsimp only
      rw [if_false' (dec_f (by omega))]
      exact ⟨_, rfl, e2⟩)
  exact ⟨M', h1, h2.congr fun x _ => hb_iff.symm⟩
theorem ahead_L1 {h : List EV} (hn : h.length ≤ 60) : ∃ M, loopO (fun x : List (List Bool) × Int => stamp_Ahead_L1 h (h.length : Int) x.1 x.2) (List.replicate h.length ([] : List Bool), (0 : Int)) = some M ∧ M.length = h.length ∧ ∀ r, r < h.length → (M.getD r []).length = h.length ∧ ∀ x, x < h.length → ((M.getD r []).getD x false = true ↔ Hb h x r) := by
  refine loop_count (fun k x => x.2 = (k : Int) ∧ x.1.length = h.length ∧ ∀ r, r < k → (x.1.getD r []).length = h.length ∧ ∀ y, y < h.length → ((x.1.getD r []).getD y false = true ↔ Hb h y r)) h.length _ ⟨rfl, by simp, fun r hr => by omega⟩ ?_ ?_
  · rintro k ⟨M, kk⟩ hk ⟨e1, e2, e3⟩
    dsimp only at e1 e2 e3
    subst e1
    unfold stamp_Ahead_L1
    dsimp only
    rw [if_true' (dec_t (by omega)), ck_in (by omega), letO_def, ck_in (by omega), ck_in (le_maxL (by omega)), ck_in (by omega), letO_def, ck_in (by omega), letO_def, letO_def]
    simp only [Int.toNat_natCast, List.drop_zero]
    have htk : (h.take k).length = k := by simp; omega
    rw [htk, inc64 (by omega)]
    have hM : RowOf M (M.set k (List.replicate h.length false)) h.length k (fun _ => False) := by
      refine ⟨by simpa using e2, fun r hr => ?_, ?_, fun x hx => ?_⟩
      · rw [getD_setD (by omega), if_neg hr]
      · rw [getD_setD (by omega), if_pos rfl]; simp
      · rw [getD_setD (by omega), if_pos rfl, getD_rep]; simp
    obtain ⟨M', g1, g2⟩ := ahead_L2 hn hk hM e3
    rw [bind_of g1]
    refine ⟨_, rfl, rfl, g2.len, fun r hr => ?_⟩
    dsimp only
    by_cases e : r = k
    · subst e; exact ⟨g2.rl, g2.row⟩
    · rw [g2.other r e]; exact e3 r (by omega)
  · rintro ⟨M, kk⟩ ⟨e1, e2, e3⟩
    dsimp only at e1 e2 e3
    subst e1
    unfold stamp_Ahead_L1
    dsimp only
    rw [if_false' (dec_f (by omega))]
    exact ⟨_, rfl, e2, e3⟩
abbrev PV := Int × Int × Unit
/-- The pairs of some. -/
structure Prs (l : List PV) (b : Nat) (f : Nat → Nat → Prop) : Prop where
  len : l.length ≤ b
  mem : ∀ e, e ∈ l ↔ ∃ x y : Nat, e = ((x : Int), (y : Int), ()) ∧ f x y
theorem ahead_L6 {h : List EV} (hn : h.length ≤ 60) {M : List (List Bool)} (hM : M.length = h.length) (hr : ∀ r, r < h.length → (M.getD r []).length = h.length ∧ ∀ x, x < h.length → ((M.getD r []).getD x false = true ↔ Hb h x r)) {i : Nat} (hi : i < h.length) {l : List PV} (hl : Prs l (i * 60) (fun x y => x < i ∧ y < h.length ∧ Hb h x y)) :
    ∃ l', loopO (fun x : List PV × Int => stamp_Ahead_L6 M (i : Int) (h.length : Int) x.1 x.2) (l, (0 : Int)) = some l' ∧ Prs l' ((i + 1) * 60) (fun x y => x < i + 1 ∧ y < h.length ∧ Hb h x y) := by
  have hib : i * 60 ≤ 3600 := by omega
  obtain ⟨l', h1, h2⟩ := loop_count (B := fun x : List PV × Int => stamp_Ahead_L6 M (i : Int) (h.length : Int) x.1 x.2) (fun k x => x.2 = (k : Int) ∧ Prs x.1 (i * 60 + k) (fun x y => (x < i ∧ y < h.length ∧ Hb h x y) ∨ (x = i ∧ y < k ∧ Hb h x y))) h.length (fun l' => Prs l' (i * 60 + h.length) (fun x y => (x < i ∧ y < h.length ∧ Hb h x y) ∨ (x = i ∧ y < h.length ∧ Hb h x y))) (x := (l, (0 : Int))) ⟨rfl, hl.len, fun e => by rw [hl.mem]; simp⟩ (by
      rintro k ⟨lk, kk⟩ hk ⟨e1, e2⟩
      dsimp only at e1 e2
      subst e1
      have hlen := e2.len
      have hrk := hr k hk
      unfold stamp_Ahead_L6
      dsimp only
      rw [if_true' (dec_t (by omega)), ck_in (by omega)]
      simp only [Int.toNat_natCast]
      rw [ck_in (by rw [hrk.1]; omega)]
      simp only [stamp_Ahead_J7, inc64 (show k < 1000000000000 by omega)]
      rcases bdich ((M.getD k []).getD i false) with hb | hb
      · rw [if_true' hb, ck_in (le_maxL (by simp; omega))]
        have hh := (hrk.2 i hi).1 hb
        refine ⟨_, rfl, rfl, by simp; omega, fun e => ?_⟩
        dsimp only
        rw [List.mem_append, e2.mem, List.mem_singleton]
        constructor
        · rintro (⟨x, y, h1, h2⟩ | h1)
          · exact ⟨x, y, h1, h2.imp id fun h => ⟨h.1, by omega, h.2.2⟩⟩
          · exact ⟨i, k, h1, .inr ⟨rfl, by omega, hh⟩⟩
        · rintro ⟨x, y, h1, h2 | ⟨h2, h3, h4⟩⟩
          · exact .inl ⟨x, y, h1, .inl h2⟩
          · by_cases e : y = k
            · subst e h2; exact .inr h1
            · exact .inl ⟨x, y, h1, .inr ⟨h2, by omega, h4⟩⟩
      · rw [if_false' hb]
        have hh : ¬ Hb h i k := fun h => by rw [(hrk.2 i hi).2 h] at hb; cases hb
        refine ⟨_, rfl, rfl, by dsimp only; omega, fun e => ?_⟩
        dsimp only
        rw [e2.mem]
        constructor
        · rintro ⟨x, y, h1, h2⟩
          exact ⟨x, y, h1, h2.imp id fun h => ⟨h.1, by omega, h.2.2⟩⟩
        · rintro ⟨x, y, h1, h2 | ⟨h2, h3, h4⟩⟩
          · exact ⟨x, y, h1, .inl h2⟩
          · have : y ≠ k := fun e => by subst e h2; exact hh h4
            exact ⟨x, y, h1, .inr ⟨h2, by omega, h4⟩⟩) (by
      rintro ⟨lk, kk⟩ ⟨e1, e2⟩
      dsimp only at e1 e2
      subst e1
      unfold stamp_Ahead_L6
      dsimp only
      rw [if_false' (dec_f (by omega))]
      exact ⟨_, rfl, e2⟩)
  refine ⟨l', h1, by have := h2.len; omega, fun e => ?_⟩
  rw [h2.mem]
  constructor
  · rintro ⟨x, y, g1, g2 | g2⟩
    · exact ⟨x, y, g1, by omega, g2.2⟩
    · exact ⟨x, y, g1, by omega, g2.2⟩
  · rintro ⟨x, y, g1, g2, g3⟩
    by_cases e : x = i
    · exact ⟨x, y, g1, .inr ⟨e, g3⟩⟩
    · exact ⟨x, y, g1, .inl ⟨by omega, g3⟩⟩
theorem ahead_ok {h : List EV} (hc : chkF h = 0) : ∃ a, stamp_Ahead h = some (a, 0) ∧ Prs a 3600 (fun x y => y < h.length ∧ Hb h x y) := by
  have hn := (good_of hc).len
  obtain ⟨M, g1, g2, g3⟩ := ahead_L1 hn
  obtain ⟨l, k1, k2⟩ := loop_count (B := fun x : List PV × Int => stamp_Ahead_L5 h M (h.length : Int) x.1 x.2) (fun i x => x.2 = (i : Int) ∧ Prs x.1 (i * 60) (fun x y => x < i ∧ y < h.length ∧ Hb h x y)) h.length (fun l => Prs l (h.length * 60) (fun x y => x < h.length ∧ y < h.length ∧ Hb h x y)) (x := (([] : List PV), (0 : Int))) ⟨rfl, by simp, fun e => by simp⟩ (by
      rintro i ⟨li, ii⟩ hi ⟨e1, e2⟩
      dsimp only at e1 e2
      subst e1
      unfold stamp_Ahead_L5
      dsimp only
      rw [if_true' (dec_t (by omega)), letO_def, inc64 (by omega)]
      obtain ⟨l', f1, f2⟩ := ahead_L6 hn g2 g3 hi e2
      rw [bind_of f1]
      exact ⟨_, rfl, rfl, f2⟩) (by
      rintro ⟨li, ii⟩ ⟨e1, e2⟩
      dsimp only at e1 e2
      subst e1
      unfold stamp_Ahead_L5
      dsimp only
      rw [if_false' (dec_f (by omega))]
      exact ⟨_, rfl, e2⟩)
  refine ⟨l, ?_, by have := k2.len; omega, fun e => ?_⟩
  · unfold stamp_Ahead
    rw [bind_of (check_eq h), hc, if_false' (by decide), ck_in (by omega), ck_in (le_maxL (by omega)), letO_def, letO_def, Int.toNat_natCast, bind_of g1, letO_def, bind_of k1]
  · rw [k2.mem]
    constructor
    · rintro ⟨x, y, a1, a2, a3, a4⟩; exact ⟨x, y, a1, a3, a4⟩
    · rintro ⟨x, y, a1, a3, a4⟩; exact ⟨x, y, a1, by have := a4.lt; omega, a3, a4⟩
theorem ahead_no {h : List EV} (hc : chkF h ≠ 0) : stamp_Ahead h = some ([], chkF h) := by
  unfold stamp_Ahead
  rw [bind_of (check_eq h), if_true' (by simpa using hc)]
end Go.Proofs.Ytdahfpfkjljojaa.Vc
open Go Go.Proofs.Ytdahfpfkjljojaa.Sy Go.Proofs.Ytdahfpfkjljojaa.Pu
set_option linter.unusedVariables false
set_option linter.unusedSimpArgs false
namespace Go.Proofs.Ytdahfpfkjljojaa.Vc

/-- The last event of the same process, if there is one. -/
theorem was_some {α : Type} {z : α} {h : List EV} {o : Nat → α} {i k : Nat} (hik : i < k) (hp : evp h i = evp h k) : ∃ w, i ≤ w ∧ w < k ∧ evp h w = evp h k ∧ was z h o k = o w := by
  unfold was
  rcases lastOf_cases (fun j => evp h j == evp h k) o z k with ⟨_, h2⟩ | ⟨w, h1, h2, h3, h4⟩
  · have := h2 i hik
    rw [hp] at this
    simp at this
  · refine ⟨w, ?_, h1, by simpa using h2, h3⟩
    refine Classical.byContradiction fun hn => ?_
    have := h4 i (by omega) hik
    rw [hp] at this
    simp at this
/-- The event that sent it. -/
theorem sent_some {α : Type} {z : α} {h : List EV} (hc : chkF h = 0) {o : Nat → α} {i k : Nat} (hik : i < k) (hk : k < h.length) (h2 : evk h i = 2) (hm : evm h i = evm h k) : sentBy z h o k = o i := by
  unfold sentBy
  rcases lastOf_cases (fun j => evk h j == 2 && evm h j == evm h k) o z k with ⟨_, g2⟩ | ⟨u, g1, g2, g3, g4⟩
  · have := g2 i hik
    rw [h2, hm] at this
    simp at this
  · rw [g3]
    simp only [Bool.and_eq_true, beq_iff_eq] at g2
    have : u = i := by
      rcases Nat.lt_trichotomy u i with h | h | h
      · exact absurd (g2.2.trans hm.symm) (send_once hc h (by omega) g2.1 h2)
      · exact h
      · exact absurd (hm.trans g2.2.symm) (send_once hc h (by omega) h2 g2.1)
    rw [this]
theorem dir_cases {h : List EV} {i k : Nat} (hd : dirB h i k = true) : evp h i = evp h k ∨ (evk h k = 3 ∧ evk h i = 2 ∧ evm h i = evm h k) := by
  simp only [dirB, Bool.or_eq_true, Bool.and_eq_true, beq_iff_eq] at hd
  rcases hd with h1 | ⟨⟨h1, h2⟩, h3⟩
  · exact .inl h1
  · exact .inr ⟨h1, h2, h3⟩
theorem dir_same {h : List EV} {i k : Nat} (hp : evp h i = evp h k) : dirB h i k = true := by simp [dirB, hp]
theorem dir_msg {h : List EV} {i k : Nat} (h1 : evk h k = 3) (h2 : evk h i = 2) (h3 : evm h i = evm h k) : dirB h i k = true := by simp [dirB, h1, h2, h3]

/-! ### Stamps -/
theorem stamp_at {h : List EV} {s : List Int} (hg : Good h) (hs : StampRun h s) {k : Nat} (hk : k < h.length) : s.getD k 0 = (if (evk h k == (3 : Int)) = true then mxI (was (0 : Int) h (s.getD · 0) k) (sentBy (0 : Int) h (s.getD · 0) k) else was (0 : Int) h (s.getD · 0) k) + 1 := by
  have hl := hg.len
  have hw : 0 ≤ was (0 : Int) h (s.getD · 0) k ∧ was (0 : Int) h (s.getD · 0) k ≤ k := lastOf_prop (fun x => 0 ≤ x ∧ x ≤ (k : Int)) ⟨Int.le_refl _, by omega⟩ fun j hj _ => by have := stamp_bound hg hs j (by omega); omega
  have hn : 0 ≤ sentBy (0 : Int) h (s.getD · 0) k ∧ sentBy (0 : Int) h (s.getD · 0) k ≤ k := lastOf_prop (fun x => 0 ≤ x ∧ x ≤ (k : Int)) ⟨Int.le_refl _, by omega⟩ fun j hj _ => by have := stamp_bound hg hs j (by omega); omega
  rw [hs.at_ k hk]
  simp only [given, upI]
  have hm := mxI_cases (was (0 : Int) h (s.getD · 0) k) (sentBy (0 : Int) h (s.getD · 0) k)
  split
  · rw [inc_eq (by omega) (by omega)]
  · rw [inc_eq (by omega) (by omega)]
theorem stamp_dir {h : List EV} {s : List Int} (hc : chkF h = 0) (hs : StampRun h s) : ∀ k, k < h.length → ∀ i, i < k → dirB h i k = true → s.getD i 0 < s.getD k 0 := by
  intro k
  induction k using Nat.strongRecOn with
  | _ k ih =>
    intro hk i hik hd
    have hg := good_of hc
    rw [stamp_at hg hs hk]
    have hm := mxI_cases (was (0 : Int) h (s.getD · 0) k) (sentBy (0 : Int) h (s.getD · 0) k)
    rcases dir_cases hd with hp | ⟨h3, h2, hmm⟩
    · obtain ⟨w, w1, w2, w3, w4⟩ := was_some (z := (0 : Int)) (o := (s.getD · 0)) hik hp
      have hle : s.getD i 0 ≤ s.getD w 0 := by
        by_cases e : i = w
        · rw [e]; exact Int.le_refl _
        · have := ih w w2 (by omega) i (by omega) (dir_same (hp.trans w3.symm)); omega
      rw [w4] at hm ⊢
      split <;> omega
    · have := sent_some (z := (0 : Int)) hc (o := (s.getD · 0)) hik hk h2 hmm
      rw [this] at hm ⊢
      rw [if_pos (by rw [h3]; decide)]
      omega
theorem stamp_hb {h : List EV} {s : List Int} (hc : chkF h = 0) (hs : StampRun h s) {i k : Nat} (hh : Hb h i k) : k < h.length → s.getD i 0 < s.getD k 0 := by
  induction hh with
  | step h1 h2 => exact fun hk => stamp_dir hc hs _ hk _ h1 h2
  | trans h1 h2 h3 ih =>
    intro hk
    have := ih (by omega)
    have := stamp_dir hc hs _ hk _ h2 h3
    omega
theorem ahead_law (h : List EV) : StampAhead h = some true := by
  unfold StampAhead
  have e0 : stampsF [((0 : Int), (2 : Int), (0 : Int), ()), ((1 : Int), (1 : Int), (0 : Int), ()), ((1 : Int), (3 : Int), (0 : Int), ())] = ([1, 1, 2], 0) := by decide +kernel
  rw [bind_of (stamps_eq _), e0, equalI_eq _ _ (by decide), letO_def, ck_in (fun _ => by rfl), if_false' (by decide), bind_of (stamps_eq h)]
  by_cases hc : chkF h = 0
  · obtain ⟨e1, hg, hs⟩ := stampsF_ok hc
    obtain ⟨a, ha, hp⟩ := ahead_ok hc
    rw [bind_of ha, e1]
    generalize stampsO h = s at hs
    have hl := hg.len
    have hsl : s.length = h.length := hs.len
    have hal := hp.len
    rw [if_false' (by rfl), letO_def]
    have h1 : loopO (fun x : Int => StampAhead_L1 (s, (0 : Int)) (a, (0 : Int)) (a.length : Int) x) (0 : Int) = some (.inl ()) := by
      refine loop_from (fun k => (k : Int)) a.length rfl (fun k hk => ?_) ?_
      · have hm : a.getD k ((0 : Int), (0 : Int), ()) ∈ a := by rw [getD_lt hk]; exact List.getElem_mem hk
        obtain ⟨x, y, exy, hy, hxy⟩ := (hp.mem _).1 hm
        have hlt := stamp_hb hc hs hxy hy
        have hx := hxy.lt
        unfold StampAhead_L1
        dsimp only
        rw [if_true' (dec_t (by omega)), ck_in (by omega), letO_def, Int.toNat_natCast, exy]
        dsimp only
        simp only [Int.toNat_natCast]
        rw [ck_in (by omega), ck_in (by omega), if_false' (dec_f (by omega)), inc64 (by omega)]
      · unfold StampAhead_L1
        rw [if_false' (dec_f (by omega))]
    rw [bindE_inl h1, letO_def]
    have h2 : loopO (fun x : Int => StampAhead_L2 h (s, (0 : Int)) (h.length : Int) x) (0 : Int) = some (.inl ()) := by
      refine loop_from (fun k => (k : Int)) h.length rfl (fun k hk => ?_) ?_
      · unfold StampAhead_L2
        rw [if_true' (dec_t (by omega)), ck_in (by omega), letO_def, ck_in (by omega), letO_def, letO_def]
        simp only [Int.toNat_natCast, List.drop_zero]
        have htk : (h.take k).length = k := by simp; omega
        rw [htk]
        refine bindE_inl (y := ()) (loop_from (fun i => (i : Int)) k rfl (fun i hi => ?_) ?_) |>.trans (by rw [inc64 (by omega)])
        · unfold StampAhead_L3
          dsimp only
          rw [if_true' (dec_t (by omega)), ck_in (by omega), letO_def, Int.toNat_natCast, Int.toNat_natCast, getD_take hi, ck_in (fun _ => by omega), ck_in (fun _ => by omega), inc64 (by omega), if_false' ?_]
          rw [Bool.and_eq_false_iff]
          by_cases hpp : evp h k = evp h i
          · right
            have := stamp_dir hc hs k hk i hi (dir_same hpp.symm)
            simp only [beq_eq_false_iff_ne, ne_eq]
            omega
          · left; exact beq_eq_false_iff_ne.2 hpp
        · unfold StampAhead_L3
          rw [if_false' (dec_f (by omega))]
      · unfold StampAhead_L2
        rw [if_false' (dec_f (by omega))]
    rw [bindE_inl h2]
    simp [hsl]
  · rw [stampsF_no hc, bind_of (ahead_no hc), if_true' (by simpa using hc)]
    have : arR .add .i64 ((([] : List Int).length : Nat) : Int) ((([] : List PV).length : Nat) : Int) = 0 := by decide +kernel
    rw [this]
    simp

/-! ### Vectors -/
theorem vect_dir {h : List EV} {v : List (List Int)} (hc : chkF h = 0) (hv : VectRun h v) : ∀ k, k < h.length → ∀ i, i < k → dirB h i k = true → ∀ j, j < 6 → (v.getD i z6).getD j 0 ≤ (v.getD k z6).getD j 0 := by
  intro k
  induction k using Nat.strongRecOn with
  | _ k ih =>
    intro hk i hik hd j hj
    have hg := good_of hc
    rw [vect_at hg hv hk hj]
    have hm := mxI_cases ((was z6 h (v.getD · z6) k).getD j 0) ((sentBy z6 h (v.getD · z6) k).getD j 0)
    rcases dir_cases hd with hp | ⟨h3, h2, hmm⟩
    · obtain ⟨w, w1, w2, w3, w4⟩ := was_some (z := z6) (o := (v.getD · z6)) hik hp
      have hle : (v.getD i z6).getD j 0 ≤ (v.getD w z6).getD j 0 := by
        by_cases e : i = w
        · rw [e]; exact Int.le_refl _
        · exact ih w w2 (by omega) i (by omega) (dir_same (hp.trans w3.symm)) j hj
      rw [w4] at hm ⊢
      split <;> split <;> omega
    · have := sent_some (z := z6) hc (o := (v.getD · z6)) hik hk h2 hmm
      rw [this] at hm ⊢
      rw [if_pos (show (evk h k == (3 : Int)) = true by rw [h3]; decide)]
      split <;> omega
theorem vect_hb {h : List EV} {v : List (List Int)} (hc : chkF h = 0) (hv : VectRun h v) {i k : Nat} (hh : Hb h i k) : k < h.length → ∀ j, j < 6 → (v.getD i z6).getD j 0 ≤ (v.getD k z6).getD j 0 := by
  induction hh with
  | step h1 h2 => exact fun hk => vect_dir hc hv _ hk _ h1 h2
  | trans h1 h2 h3 ih =>
    intro hk j hj
    exact Int.le_trans (ih (by omega) j hj) (vect_dir hc hv _ hk _ h2 h3 j hj)
theorem vect_tell {h : List EV} {v : List (List Int)} (hc : chkF h = 0) (hv : VectRun h v) : ∀ k, k < h.length → ∀ i, i < k → (v.getD i z6).getD (evp h i).toNat 0 ≤ (v.getD k z6).getD (evp h i).toNat 0 → Hb h i k := by
  intro k
  induction k using Nat.strongRecOn with
  | _ k ih =>
    intro hk i hik hle
    have hg := good_of hc
    by_cases hp : evp h i = evp h k
    · exact .step hik (dir_same hp)
    obtain ⟨g1, g2, _, _⟩ := hg.ev i (by omega)
    obtain ⟨k1, k2, _, _⟩ := hg.ev k hk
    have hown := (vect_count hg hv i (by omega)).2
    have hi1 : cnt h (evp h i) (i + 1) = cnt h (evp h i) i + 1 := by simp [cnt]
    have hi0 := cnt_nonneg (h := h) (p := evp h i) (k := i)
    rw [vect_at hg hv hk (show (evp h i).toNat < 6 by omega), if_neg (show ¬ (evp h i).toNat = (evp h k).toNat by omega)] at hle
    -- an event that came before k and knows i
    have key : ∀ w, w < k → dirB h w k = true → (v.getD i z6).getD (evp h i).toNat 0 ≤ (v.getD w z6).getD (evp h i).toNat 0 → Hb h i k := by
      intro w hw hd hlw
      rcases Nat.lt_trichotomy i w with h1 | h1 | h1
      · exact .trans (ih w hw (by omega) i h1 hlw) hw hd
      · subst h1; exact .step hik hd
      · exfalso
        have a := (vect_count hg hv w (by omega)).1 (evp h i) g1 g2
        have b := cnt_mono (h := h) (p := evp h i) (show w + 1 ≤ i by omega)
        omega
    have hcw : (v.getD i z6).getD (evp h i).toNat 0 ≤ (was z6 h (v.getD · z6) k).getD (evp h i).toNat 0 → Hb h i k := by
      intro hl
      unfold was at hl
      rcases lastOf_cases (fun j => evp h j == evp h k) (v.getD · z6) z6 k with ⟨h1, _⟩ | ⟨w, w1, w2, w3, _⟩
      · rw [h1, getD_rep] at hl; omega
      · rw [w3] at hl
        exact key w w1 (dir_same (by simpa using w2)) hl
    have hm := mxI_cases ((was z6 h (v.getD · z6) k).getD (evp h i).toNat 0) ((sentBy z6 h (v.getD · z6) k).getD (evp h i).toNat 0)
    rcases bdich (evk h k == (3 : Int)) with h3 | h3
    · rw [if_true' h3] at hle
      have h3' : evk h k = 3 := by simpa using h3
      rcases hm.2 with e | e
      · exact hcw (by omega)
      · have hl : (v.getD i z6).getD (evp h i).toNat 0 ≤ (sentBy z6 h (v.getD · z6) k).getD (evp h i).toNat 0 := by omega
        unfold sentBy at hl
        rcases lastOf_cases (fun j => evk h j == 2 && evm h j == evm h k) (v.getD · z6) z6 k with ⟨h1, _⟩ | ⟨u, u1, u2, u3, _⟩
        · rw [h1, getD_rep] at hl; omega
        · rw [u3] at hl
          simp only [Bool.and_eq_true, beq_iff_eq] at u2
          exact key u u1 (dir_msg h3' u2.1 u2.2) hl
    · rw [if_false' h3] at hle
      exact hcw (by omega)
theorem vect_ne {h : List EV} {v : List (List Int)} (hg : Good h) (hv : VectRun h v) {i k : Nat} (hik : i < k) (hk : k < h.length) : (v.getD i z6).getD (evp h k).toNat 0 < (v.getD k z6).getD (evp h k).toNat 0 := by
  obtain ⟨g1, g2, _, _⟩ := hg.ev k hk
  rw [(vect_count hg hv k hk).2]
  have a := (vect_count hg hv i (by omega)).1 (evp h k) g1 g2
  have b := cnt_mono (h := h) (p := evp h k) (show i + 1 ≤ k by omega)
  have c : cnt h (evp h k) (k + 1) = cnt h (evp h k) k + 1 := by simp [cnt]
  omega
theorem tells_at {h : List EV} {v : List (List Int)} (hc : chkF h = 0) (hv : VectRun h v) {i k : Nat} (hi : i < h.length) (hk : k < h.length) : (compareF (v.getD i z6) (v.getD k z6) = 1 ↔ Hb h i k) ∧ (i ≠ k → compareF (v.getD i z6) (v.getD k z6) ≠ 0) := by
  have hg := good_of hc
  by_cases e : i = k
  · subst e
    refine ⟨⟨fun h => ?_, fun h => absurd h.lt (Nat.lt_irrefl _)⟩, fun h => absurd rfl h⟩
    simp [compareF] at h
  have hne : v.getD i z6 ≠ v.getD k z6 := by
    intro he
    rcases Nat.lt_or_gt_of_ne e with h1 | h1
    · have := vect_ne hg hv h1 hk; rw [he] at this; omega
    · have := vect_ne hg hv h1 hi; rw [he] at this; omega
  have hcmp : compareF (v.getD i z6) (v.getD k z6) = 1 ↔ withinF (v.getD i z6) (v.getD k z6) = true := by
    unfold compareF
    rw [if_neg hne]
    rcases bdich (withinF (v.getD i z6) (v.getD k z6)) with h1 | h1
    · rw [if_true' h1, h1]; simp
    · rw [if_false' h1, h1]
      split <;> simp
  refine ⟨hcmp.trans ?_, fun _ => ?_⟩
  · rw [within_iff]
    constructor
    · intro hw
      rcases Nat.lt_or_gt_of_ne e with h1 | h1
      · obtain ⟨g1, g2, _, _⟩ := hg.ev i hi
        exact vect_tell hc hv k hk i h1 (hw _ (by omega))
      · obtain ⟨g1, g2, _, _⟩ := hg.ev i hi
        have a := vect_ne hg hv h1 hi
        have b := hw (evp h i).toNat (by omega)
        omega
    · intro hh
      exact vect_hb hc hv hh hk
  · unfold compareF
    rw [if_neg hne]
    split
    · decide
    · split <;> decide
theorem tells_law (h : List EV) : VectTells h = some true := by
  unfold VectTells
  have e0 : vectorsF [((0 : Int), (2 : Int), (0 : Int), ()), ((1 : Int), (3 : Int), (0 : Int), ())] = ([[1,0,0,0,0,0],[1,1,0,0,0,0]], 0) := by decide +kernel
  rw [bind_of (vectors_eq _), e0, ck_in (by decide), if_false' (by decide), bind_of (vectors_eq h)]
  by_cases hc : chkF h = 0
  · obtain ⟨e1, hg, hv⟩ := vectorsF_ok hc
    obtain ⟨a, ha, hp⟩ := ahead_ok hc
    rw [bind_of ha, e1]
    generalize vectorsO h = v at hv
    have hl := hg.len
    have hvl : v.length = h.length := hv.len
    have hal := hp.len
    rw [if_false' (by rfl), letO_def]
    refine bindE_inl (y := ()) (loop_from (fun k => (k : Int)) h.length rfl (fun i hi => ?_) ?_)
    · unfold VectTells_L1
      rw [if_true' (dec_t (by omega)), letO_def]
      refine bindE_inl (y := ()) (loop_from (fun k => (k : Int)) h.length rfl (fun k hk => ?_) ?_) |>.trans (by rw [inc64 (by omega)])
      · obtain ⟨t1, t2⟩ := tells_at hc hv hi hk
        unfold VectTells_L2
        dsimp only
        have hcki : 0 ≤ (i : Int) ∧ (i : Int) < ((v.length : Nat) : Int) := by omega
        have hckk : 0 ≤ (k : Int) ∧ (k : Int) < ((v.length : Nat) : Int) := by omega
        have hmem : ((i : Int), (k : Int), ()) ∈ a ↔ Hb h i k := by
          refine ⟨fun hm => ?_, fun hh => (hp.mem _).2 ⟨i, k, rfl, hk, hh⟩⟩
          obtain ⟨x, y, exy, _, hxy⟩ := (hp.mem _).1 hm
          have h1 : (i : Int) = (x : Int) := congrArg Prod.fst exy
          have h2 : (k : Int) = (y : Int) := congrArg (fun p => p.2.1) exy
          have h1 : i = x := by omega
          have h2 : k = y := by omega
          rw [h1, h2]; exact hxy
        rw [if_true' (dec_t (by omega)), bind_of (cont_eq a _ (by omega)), ck_in hcki, ck_in hckk]
        simp only [Int.toNat_natCast]
        rw [bind_of (compare_eq _ _), ck_in (fun _ _ => hcki), ck_in (fun _ _ => hckk), compare_eq, letO_def, ck_in (fun _ _ => by rfl), inc64 (by omega), if_false' ?_]
        rw [Bool.or_eq_false_iff]
        refine ⟨?_, ?_⟩
        · have : eqB (decide (((i : Int), (k : Int), ()) ∈ a)) (compareF (v.getD i z6) (v.getD k z6) == (1 : Int)) = true := by
            rw [eqB_iff, Bool.eq_iff_iff, decide_eq_true_eq, beq_iff_eq]
            exact hmem.trans t1.symm
          rw [this]; rfl
        · rw [Bool.and_eq_false_iff]
          by_cases e : i = k
          · left; subst e; simp
          · right
            simp only [Option.getD_some, beq_eq_false_iff_ne]
            exact t2 e
      · unfold VectTells_L2
        rw [if_false' (dec_f (by omega))]
    · unfold VectTells_L1
      rw [if_false' (dec_f (by omega))]
  · rw [vectorsF_no hc, bind_of (ahead_no hc), if_true' (by simpa using hc)]
    simp
end Go.Proofs.Ytdahfpfkjljojaa.Vc
