/- The laws VectTakes, VectCounts, StampBound, StampFront. -/
import Derived.Test.YtdahfpfkjljojaaHist3
open Go Go.Proofs.Ytdahfpfkjljojaa.Sy Go.Proofs.Ytdahfpfkjljojaa.Pu
set_option linter.unusedVariables false
set_option linter.unusedSimpArgs false
namespace Go.Proofs.Ytdahfpfkjljojaa.Vc

theorem stampsF_ok {h : List EV} (hc : chkF h = 0) : stampsF h = (stampsO h, 0) ∧ Good h ∧ StampRun h (stampsO h) := by
  refine ⟨by simp [stampsF, hc], good_of hc, gout_run (good_of hc)⟩
theorem vectorsF_ok {h : List EV} (hc : chkF h = 0) : vectorsF h = (vectorsO h, 0) ∧ Good h ∧ VectRun h (vectorsO h) := by
  refine ⟨by simp [vectorsF, hc], good_of hc, gout_run (good_of hc)⟩
theorem stampsF_no {h : List EV} (hc : chkF h ≠ 0) : stampsF h = ([], chkF h) := by simp [stampsF, hc]
theorem vectorsF_no {h : List EV} (hc : chkF h ≠ 0) : vectorsF h = ([], chkF h) := by simp [vectorsF, hc]

theorem takes_law (h : List EV) : VectTakes h = some true := by
  unfold VectTakes
  have e0 : vectorsF [((2 : Int), (2 : Int), (0 : Int), ()), ((0 : Int), (1 : Int), (0 : Int), ()), ((0 : Int), (3 : Int), (0 : Int), ())] = ([[0,0,1,0,0,0],[1,0,0,0,0,0],[2,0,1,0,0,0]], 0) := by decide +kernel
  rw [bind_of (vectors_eq _), e0, ck_in (by decide), if_false' (by decide), bind_of (vectors_eq h)]
  by_cases hc : chkF h = 0
  · obtain ⟨e1, hg, hr⟩ := vectorsF_ok hc
    generalize vectorsO h = v at e1 hr
    rw [e1, if_false' (by rfl), letO_def]
    have hl := hg.len
    have hvl : v.length = h.length := hr.len
    refine bindE_inl (y := ()) (loop_from (fun k => (k : Int)) h.length rfl (fun k hk => ?_) ?_)
    · unfold VectTakes_L1
      rw [if_true' (dec_t (by omega)), ck_in (by omega), letO_def, letO_def, ck_in (by omega), letO_def, letO_def, Int.toNat_natCast]
      generalize he : h.getD k dE = e
      have ep : evp h k = e.1 := by rw [evp, he]
      have ek : evk h k = e.2.1 := by rw [evk, he]
      have em : evm h k = e.2.2.1 := by rw [evm, he]
      obtain ⟨g1, g2, g3, g4⟩ := hg.ev k hk
      rw [ep] at g1 g2
      rw [List.drop_zero]
      have htl : (h.take k).length = k := by simp; omega
      rw [htl]
      have hloop : loopO (fun x : List Int × List Int × Int => VectTakes_L2 (v, (0 : Int)) e (h.take k) (k : Int) x.1 x.2.1 x.2.2) (z6, z6, (0 : Int)) =
          some (lastOf (fun j => evp h j == e.1) (v.getD · z6) z6 k, lastOf (fun j => (e.2.1 == (3 : Int) && evk h j == 2) && evm h j == e.2.2.1) (v.getD · z6) z6 k) := by
        refine loop_from (fun i => (lastOf (fun j => evp h j == e.1) (v.getD · z6) z6 i, lastOf (fun j => (e.2.1 == (3 : Int) && evk h j == 2) && evm h j == e.2.2.1) (v.getD · z6) z6 i, (i : Int))) k rfl (fun i hi => ?_) ?_
        · dsimp only
          unfold VectTakes_L2
          rw [if_true' (dec_t (by omega)), ck_in (by omega), letO_def, Int.toNat_natCast, getD_take hi]
          simp only [VectTakes_J3, VectTakes_J4, inc64 (show i < 1000000000000 by omega)]
          have hck : 0 ≤ (i : Int) ∧ (i : Int) < ((v.length : Nat) : Int) := by omega
          rw [Int.toNat_natCast]
          simp only [lastOf, evp, evk, evm, ck_in hck]
          rcases bdich ((h.getD i dE).1 == e.1) with a | a <;> rcases bdich ((e.2.1 == (3 : Int) && (h.getD i dE).2.1 == 2) && (h.getD i dE).2.2.1 == e.2.2.1) with b | b <;> simp only [a, b, if_true, if_false, Bool.false_eq_true]
        · dsimp only
          unfold VectTakes_L2
          rw [if_false' (dec_f (by omega))]
      rw [bind_of hloop, bind_of (max_eq _ _)]
      have hck : 0 ≤ e.1 ∧ e.1 < 6 := ⟨g1, g2⟩
      have hckk : 0 ≤ (k : Int) ∧ (k : Int) < ((v.length : Nat) : Int) := by omega
      rw [ck_in hck, ck_in hck, letO_def, ck_in hckk, inc64 (by omega)]
      have hv := hr.at_ k hk
      have hw := was_ok hg hr hk
      have key : v.getD k z6 = upV e.1 (maxV (lastOf (fun j => evp h j == e.1) (v.getD · z6) z6 k) (lastOf (fun j => (e.2.1 == (3 : Int) && evk h j == 2) && evm h j == e.2.2.1) (v.getD · z6) z6 k)) := by
        rw [hv]
        simp only [given, was, sentBy, ep, ek, em]
        simp only [was, ep] at hw
        rcases bdich (e.2.1 == (3 : Int)) with h3 | h3
        · simp only [h3, if_true, Bool.true_and]
        · simp only [h3, Bool.false_eq_true, if_false, Bool.false_and]
          have : ∀ i, lastOf (fun _ => false) (v.getD · z6) z6 i = z6 := by
            intro i
            induction i with
            | zero => rfl
            | succ i ih => simp only [lastOf, Bool.false_eq_true, if_false]; exact ih
          rw [this, maxV_z6 hw]
      rw [if_false' (by rw [(eqA6I_iff _ _).2 key]; rfl)]
    · unfold VectTakes_L1
      rw [if_false' (dec_f (by omega))]
  · rw [vectorsF_no hc, if_true' (by simpa using hc)]
    rfl

/-! ### VectCounts -/
def vsum (x : List Int) : Nat → Int
  | 0 => 0
  | k + 1 => arR .add .i64 (vsum x k) (x.getD k 0)
theorem vsum_eq {x : List Int} {b : Int} (hx : VOk x b) (hb : b ≤ 1000) : ∀ k, k ≤ 6 → 0 ≤ vsum x k ∧ vsum x k ≤ k * 1000
  | 0, _ => by simp [vsum]
  | k + 1, hk => by
    have ih := vsum_eq hx hb k (by omega)
    have := hx.2 k (by omega)
    simp only [vsum]
    rw [add64 (by omega) (by omega)]
    omega
theorem vsum_succ {x : List Int} {b : Int} (hx : VOk x b) (hb : b ≤ 1000) {k : Nat} (hk : k < 6) : vsum x (k + 1) = vsum x k + x.getD k 0 := by
  have ih := vsum_eq hx hb k (by omega)
  have := hx.2 k (by omega)
  simp only [vsum]
  exact add64 (by omega) (by omega)
theorem vsum_mono {x y : List Int} {b : Int} (hx : VOk x b) (hy : VOk y b) (hb : b ≤ 1000) (h : ∀ j, j < 6 → x.getD j 0 ≤ y.getD j 0) : ∀ k, k ≤ 6 → vsum x k ≤ vsum y k
  | 0, _ => Int.le_refl _
  | k + 1, hk => by
    rw [vsum_succ hx hb (by omega), vsum_succ hy hb (by omega)]
    have := vsum_mono hx hy hb h k (by omega)
    have := h k (by omega)
    omega
theorem vsum_up {x y : List Int} {b : Int} (hx : VOk x b) (hy : VOk y b) (hb : b ≤ 1000) (p : Nat) (h : ∀ j, j < 6 → y.getD j 0 = x.getD j 0 + if j = p then 1 else 0) : ∀ k, k ≤ 6 → vsum y k = vsum x k + if p < k then 1 else 0
  | 0, _ => by simp [vsum]
  | k + 1, hk => by
    rw [vsum_succ hx hb (by omega), vsum_succ hy hb (by omega)]
    have := vsum_up hx hy hb p h k (by omega)
    have := h k (by omega)
    split at * <;> split at * <;> split <;> omega
theorem stamp_sum {h : List EV} {s : List Int} {v : List (List Int)} (hg : Good h) (hs : StampRun h s) (hv : VectRun h v) : ∀ k, k < h.length → s.getD k 0 ≤ vsum (v.getD k z6) 6 := by
  intro k
  induction k using Nat.strongRecOn with
  | _ k ih =>
    intro hk
    have hl := hg.len
    obtain ⟨g1, g2, _, _⟩ := hg.ev k hk
    have hvb := vect_bound hg hv k hk
    have hsb := stamp_bound hg hs k hk
    have R0 : (0 : Int) ≤ vsum z6 6 := by decide +kernel
    have hW : was (0 : Int) h (s.getD · 0) k ≤ vsum (was z6 h (v.getD · z6) k) 6 := lastOf_rel (fun (a : Int) b => a ≤ vsum b 6) R0 fun j hj _ => ih j hj (by omega)
    have hN : sentBy (0 : Int) h (s.getD · 0) k ≤ vsum (sentBy z6 h (v.getD · z6) k) 6 := lastOf_rel (fun (a : Int) b => a ≤ vsum b 6) R0 fun j hj _ => ih j hj (by omega)
    have hwb : 0 ≤ was (0 : Int) h (s.getD · 0) k ∧ was (0 : Int) h (s.getD · 0) k ≤ k := lastOf_prop (fun x => 0 ≤ x ∧ x ≤ (k : Int)) ⟨Int.le_refl _, by omega⟩ fun j hj _ => by have := stamp_bound hg hs j (by omega); omega
    have hnb : 0 ≤ sentBy (0 : Int) h (s.getD · 0) k ∧ sentBy (0 : Int) h (s.getD · 0) k ≤ k := lastOf_prop (fun x => 0 ≤ x ∧ x ≤ (k : Int)) ⟨Int.le_refl _, by omega⟩ fun j hj _ => by have := stamp_bound hg hs j (by omega); omega
    have vw := was_ok hg hv hk
    have vn := sent_ok hg hv hk
    have hkb : (k : Int) ≤ 1000 := by omega
    have hat := fun j (hj : j < 6) => vect_at hg hv hk hj
    rw [hs.at_ k hk]
    simp only [given, upI]
    rcases bdich (evk h k == (3 : Int)) with h3 | h3
    · simp only [h3, if_true] at hat ⊢
      have hm := mxI_cases (was (0 : Int) h (s.getD · 0) k) (sentBy (0 : Int) h (s.getD · 0) k)
      have vm := maxV_ok vw vn
      have e := vsum_up (x := maxV (was z6 h (v.getD · z6) k) (sentBy z6 h (v.getD · z6) k)) (y := v.getD k z6) (b := k + 1) (vm.mono (by omega)) hvb (by omega) (evp h k).toNat (fun j hj => by rw [hat j hj, maxV_at vw.1 hj]) 6 (by omega)
      rw [if_pos (by omega)] at e
      have m1 := vsum_mono vw vm hkb (fun j hj => by rw [maxV_at vw.1 hj]; exact (mxI_cases _ _).1.1) 6 (by omega)
      have m2 := vsum_mono vn vm hkb (fun j hj => by rw [maxV_at vw.1 hj]; exact (mxI_cases _ _).1.2) 6 (by omega)
      rw [inc_eq (by omega) (by omega)]
      omega
    · simp only [h3, Bool.false_eq_true, if_false] at hat ⊢
      have e := vsum_up (x := was z6 h (v.getD · z6) k) (y := v.getD k z6) (b := k + 1) (vw.mono (by omega)) hvb (by omega) (evp h k).toNat (fun j hj => hat j hj) 6 (by omega)
      rw [if_pos (by omega)] at e
      rw [inc_eq (by omega) (by omega)]
      omega
/-- The counts that the law keeps. -/
def cntV (h : List EV) (k : Nat) : List Int := (List.range 6).map fun j : Nat => cnt h (j : Int) k
theorem cntV_at {h : List EV} {k j : Nat} (hj : j < 6) : (cntV h k).getD j 0 = cnt h (j : Int) k := by
  simp [cntV, List.getD_eq_getElem?_getD, hj]
theorem counts_law (h : List EV) : VectCounts h = some true := by
  unfold VectCounts
  have e0 : vectorsF [((2 : Int), (1 : Int), (0 : Int), ()), ((2 : Int), (1 : Int), (0 : Int), ())] = ([[0,0,1,0,0,0],[0,0,2,0,0,0]], 0) := by decide +kernel
  rw [bind_of (vectors_eq _), e0, ck_in (by decide), if_false' (by decide), bind_of (vectors_eq h), bind_of (stamps_eq h)]
  by_cases hc : chkF h = 0
  · obtain ⟨e1, hg, hr⟩ := vectorsF_ok hc
    obtain ⟨e2, _, hs⟩ := stampsF_ok hc
    generalize vectorsO h = v at e1 hr
    generalize stampsO h = s at e2 hs
    rw [e1, e2, if_false' (by rfl), letO_def, letO_def]
    have hl := hg.len
    have hvl : v.length = h.length := hr.len
    have hsl : s.length = h.length := hs.len
    refine bindE_inl (y := ()) (loop_from (fun k => (cntV h k, (k : Int))) h.length (by rfl) (fun k hk => ?_) ?_)
    · dsimp only
      unfold VectCounts_L1
      obtain ⟨g1, g2, _, _⟩ := hg.ev k hk
      have hvb := vect_bound hg hr k hk
      have hcn := vect_count hg hr k hk
      have hst := stamp_sum hg hs hr k hk
      rw [if_true' (dec_t (by omega)), ck_in (by omega), letO_def, Int.toNat_natCast]
      have hck : 0 ≤ evp h k ∧ evp h k < 6 := ⟨g1, g2⟩
      have hckk : 0 ≤ (k : Int) ∧ (k : Int) < ((v.length : Nat) : Int) := by omega
      have hcks : 0 ≤ (k : Int) ∧ (k : Int) < ((s.length : Nat) : Int) := by omega
      rw [ck_in hck, ck_in hck, letO_def, ck_in hckk, letO_def]
      have hloop : loopO (fun x : Int × Int => VectCounts_L2 (v.getD k z6) x.1 x.2) ((0 : Int), (0 : Int)) = some (vsum (v.getD k z6) 6) := by
        refine loop_from (fun i => (vsum (v.getD k z6) i, (i : Int))) 6 rfl (fun i hi => ?_) rfl
        dsimp only
        unfold VectCounts_L2
        rw [if_true' (dec_t (by omega)), ck_in (by omega), letO_def, letO_def, inc64 (by omega), Int.toNat_natCast]
        rfl
      rw [bind_of hloop, ck_in hckk, ck_in hck, ck_in hck, ck_in (fun _ => hcks), ck_in (fun _ => hckk), within_eq, letO_def]
      simp only [Option.isSome_some, implies_true, ck, if_true, Option.getD_some]
      have hn : (cntV h k).set (evp h k).toNat (arR .add .i64 ((cntV h k).getD (evp h k).toNat 0) 1) = cntV h (k + 1) := by
        have hc1 := cnt_le (h := h) (p := evp h k) k
        have hc0 := cnt_nonneg (h := h) (p := evp h k) (k := k)
        refine ext_getD 0 (by simp [cntV]) fun j hj => ?_
        have hj6 : j < 6 := by simpa [cntV] using hj
        rw [getD_setD (by simp [cntV]; omega), cntV_at (by omega), cntV_at hj6, cntV_at hj6, Int.toNat_of_nonneg g1, add64 (by omega) (by omega)]
        simp only [cnt]
        by_cases e : j = (evp h k).toNat
        · rw [if_pos e, if_pos (by omega), e, Int.toNat_of_nonneg g1]
        · rw [if_neg e, if_neg (by omega)]; omega
      rw [hn]
      have hw : withinF (v.getD k z6) (cntV h (k + 1)) = true := within_iff.2 fun j hj => by
        rw [cntV_at hj]
        exact hcn.1 (j : Int) (by omega) (by omega)
      rw [if_false' ?_, inc64 (by omega)]
      simp only [hw, Bool.not_true, Bool.or_false]
      have hcv := cntV_at (h := h) (k := k + 1) (show (evp h k).toNat < 6 by omega)
      rw [Int.toNat_of_nonneg g1] at hcv
      have h1 : ((v.getD k z6).getD (evp h k).toNat 0 != (cntV h (k + 1)).getD (evp h k).toNat 0) = false := by rw [hcv, hcn.2]; simp
      have h2 : decide (s.getD k 0 > vsum (v.getD k z6) 6) = false := dec_f (by omega)
      exact Bool.or_eq_false_iff.2 ⟨h1, h2⟩
    · dsimp only
      unfold VectCounts_L1
      rw [if_false' (dec_f (by omega))]
  · rw [vectorsF_no hc, stampsF_no hc, if_true' (by simpa using hc)]
    simp
end Go.Proofs.Ytdahfpfkjljojaa.Vc
