/- What holds within a gap and at its start, and that a tick and a hearing keep it. -/
import Derived.Test.YtofccajdoekjgaaPulseD
set_option maxHeartbeats 1000000
set_option maxRecDepth 20000
set_option linter.unusedSimpArgs false
set_option linter.unusedVariables false
namespace Go.Proofs.Ytofccajdoekjgaa.PulseT
open Go Go.Proofs.Ytofccajdoekjgaa.Sy Go.Proofs
theorem getD_rep {n j : Nat} {w : Int} (h : j < n) : (List.replicate n w).getD j 0 = w := by
  simp [List.getD_eq_getElem?_getD, h]
theorem new_ok {w : Int} (h0 : 1 ≤ w) (h1 : w ≤ 1000) : newF 0 w = ((0, 0, [0, 0, 0, 0, 0, 0], List.replicate 6 w, [false, false, false, false, false, false], ()), 0) ∧ chkF (0, 0, [0, 0, 0, 0, 0, 0], List.replicate 6 w, [false, false, false, false, false, false], ()) = 0 := by
  have : chkF (0, 0, [0, 0, 0, 0, 0, 0], List.replicate 6 w, [false, false, false, false, false, false], ()) = 0 := by
    refine ok_chk (by dsimp only; omega) (by dsimp only; omega) fun j hj => ?_
    dsimp only
    rw [getD_rep hj]
    refine ⟨?_, by omega, ?_⟩
    · have : j = 0 ∨ j = 1 ∨ j = 2 ∨ j = 3 ∨ j = 4 ∨ j = 5 := by omega
      rcases this with h | h | h | h | h | h <;> subst h <;> simp
    · have : j = 0 ∨ j = 1 ∨ j = 2 ∨ j = 3 ∨ j = 4 ∨ j = 5 := by omega
      rcases this with h | h | h | h | h | h <;> subst h <;> simp
  exact ⟨by simp only [newF, this, if_true], this⟩
/-- A right pulse of process 0 whose wait for process 1 has grown d times. -/
def Good (w : Int) (p : UV) (d : Int) : Prop := chkF p = 0 ∧ p.1 = 0 ∧ p.2.2.1.length = 6 ∧ p.2.2.2.1.length = 6 ∧ p.2.2.2.2.1.length = 6 ∧ p.2.2.2.1.getD 1 0 = w + d
/-- What holds when a gap begins. -/
def FewD (w m : Int) (n : Nat) (x : UV × Int × Int) : Prop := (0 ≤ x.2.2 ∧ x.2.2 ≤ n) ∧ Good w x.1 x.2.1 ∧ x.1.2.2.1.getD 1 0 = x.1.2.1 ∧ x.1.2.2.2.2.1.getD 1 false = false ∧ 0 ≤ x.2.1 ∧ (x.2.1 ≤ 0 ∨ x.2.1 ≤ m - w)
/-- What holds within a gap. -/
def FewI (w n d t : Int) (y : UV × Int × Int) : Prop := (0 ≤ y.2.2 ∧ y.2.2 ≤ n) ∧ Good w y.1 d ∧ y.1.2.2.1.getD 1 0 = t ∧ y.1.2.1 = t + y.2.2 ∧ y.1.2.2.2.2.1.getD 1 false = decide (y.2.2 > w + d) ∧ y.2.1 = (if y.2.2 > w + d then d + 1 else d)
theorem few_start {w m : Int} {n : Nat} (h0 : 1 ≤ w) (h1 : w ≤ 1000) : FewD w m n ((newF 0 w).1, 0, 0) := by
  obtain ⟨e, hc⟩ := new_ok h0 h1
  rw [e]
  refine ⟨⟨by dsimp only; omega, by dsimp only; omega⟩, ⟨hc, rfl, rfl, by simp, rfl, ?_⟩, rfl, rfl, by dsimp only; omega, Or.inl (by dsimp only; omega)⟩
  dsimp only
  rw [getD_rep (by omega)]; omega
theorem few_gap {w m n : Int} {k : Nat} {p : UV} {d i : Int} (h0 : 1 ≤ w) (hn : 0 ≤ n) (h : FewD w m k (p, d, i)) : FewI w n d p.2.1 (p, d, 0) := by
  obtain ⟨_, h2, h3, h4, h5, _⟩ := h
  dsimp only at *
  refine ⟨⟨by dsimp only; omega, hn⟩, h2, h3, by dsimp only; omega, ?_, ?_⟩
  · dsimp only
    rw [h4, decide_eq_false (by omega)]
  · dsimp only
    rw [if_neg (by omega)]
theorem few_tick {w n d t : Int} {p : UV} {e j : Int} (h0 : 1 ≤ w) (hd : 0 ≤ d) (h : FewI w n d t (p, e, j)) (hj : j < n) : (tickF p).2.2 = 8 ∨ ((tickF p).2.2 = 0 ∧ FewI w n d t ((tickF p).1, (if hasF (tickF p).2.1 1 = true then e + 1 else e), j + 1)) := by
  obtain ⟨⟨i0, i1⟩, ⟨gc, g0, gl, gw, gd, g1⟩, h3, h4, h5, h6⟩ := h
  dsimp only at *
  obtain ⟨q1, q2, q3⟩ := chk_ok gc
  by_cases hn : p.2.1 = 16777215
  · left
    simp only [tickF, gc, if_true, hn]
  · right
    have hT := tick_eq gc (by omega)
    have hC := tick_chk gc (by omega) gl
    have hca := cond_at (j := 1) gc gl (by rw [g0]; decide)
    rw [hT] at hC ⊢
    have hh : hasF (((List.range 6).filter (cond p)).map Int.ofNat) 1 = cond p 1 := has_tick (cond p) (j := 1) (by omega)
    dsimp only at *
    rw [hh]
    have hcv : cond p 1 = decide (j = w + d) := by
      rw [hca, h5, h3, g1, h4, ← decide_not, ← Bool.decide_and, decide_eq_decide]
      omega
    refine ⟨rfl, ⟨by dsimp only; omega, by dsimp only; omega⟩, ⟨hC, g0, ?_, gw, ?_, g1⟩, ?_, by dsimp only; omega, ?_, ?_⟩
    · simpa using gl
    · simp
    · dsimp only
      rw [getD_setI (by omega), if_neg (by rw [g0]; decide)]
      exact h3
    · dsimp only
      rw [map_at _ (by omega), hcv, h5, ← Bool.decide_or, decide_eq_decide]
      omega
    · dsimp only
      rw [hcv, h6]
      simp only [decide_eq_true_eq]
      split <;> split <;> split <;> omega
theorem few_hear {w m n d t : Int} {k : Nat} {p : UV} {e i : Int} (h0 : 1 ≤ w) (hw : w ≤ 6) (hm : m ≤ 12) (hn : n ≤ m) (hi : 0 ≤ i) (hk : i < k) (hd : 0 ≤ d) (hdm : d ≤ 0 ∨ d ≤ m - w) (h : FewI w n d t (p, e, n)) :
    (hearF p 1).2.2 = 0 ∧ (hearF p 1).2.1 = p.2.2.2.2.1.getD 1 false ∧ FewD w m k ((hearF p 1).1, e, i + 1) := by
  obtain ⟨⟨i0, i1⟩, ⟨gc, g0, gl, gw, gd, g1⟩, h3, h4, h5, h6⟩ := h
  dsimp only at *
  obtain ⟨q1, q2, q3⟩ := chk_ok gc
  have e1 : arR .add .i64 (p.2.2.2.1.getD 1 0) 1 = w + d + 1 := by rw [g1]; exact add_i64 (by omega)
  have hf : ¬ ((1 : Int) < 0 ∨ (1 : Int) ≥ 6 ∨ (1 : Int) = p.1) := by rw [g0]; decide
  simp only [hearF, gc, if_true]
  rw [if_neg hf]
  by_cases hb : p.2.2.2.2.1.getD 1 false = true
  · have hnw : n > w + d := by rw [h5] at hb; exact of_decide_eq_true hb
    rw [if_pos hnw] at h6
    rw [if_pos (show p.2.2.2.2.1.getD (Int.toNat 1) false = true from hb)]
    refine ⟨rfl, rfl, ⟨by dsimp only; omega, by dsimp only; omega⟩, ⟨?_, g0, ?_, ?_, ?_, ?_⟩, ?_, ?_, by dsimp only; omega, ?_⟩
    · refine ok_chk q1 q2 fun j hj => ?_
      obtain ⟨g1, g2, g3⟩ := q3 j hj
      dsimp only
      refine ⟨?_, ?_, ?_⟩
      · rw [getD_setI (by show 1 < _; omega)]
        split <;> omega
      · rw [getD_setI (by show 1 < _; omega), show Int.toNat 1 = 1 from rfl, e1]
        split
        · split <;> omega
        · exact g2
      · rw [getD_setB (by show 1 < _; omega)]
        split
        · intro h; cases h
        · exact g3
    · simpa using gl
    · simpa using gw
    · simpa using gd
    · dsimp only
      rw [getD_setI (by show 1 < _; omega), show Int.toNat 1 = 1 from rfl, e1, if_pos rfl, if_pos (by omega)]
      omega
    · dsimp only
      rw [getD_setI (by show 1 < _; omega), if_pos (show 1 = Int.toNat 1 from rfl)]
    · dsimp only
      rw [getD_setB (by show 1 < _; omega), if_pos (show 1 = Int.toNat 1 from rfl)]
    · dsimp only; omega
  · have hnw : ¬ n > w + d := by rw [h5] at hb; exact fun h => hb (decide_eq_true h)
    rw [if_neg hnw] at h6
    rw [if_neg (show ¬ p.2.2.2.2.1.getD (Int.toNat 1) false = true from hb)]
    refine ⟨rfl, rfl, ⟨by dsimp only; omega, by dsimp only; omega⟩, ⟨?_, g0, ?_, gw, gd, ?_⟩, ?_, by simpa using hb, by dsimp only; omega, ?_⟩
    · refine ok_chk q1 q2 fun j hj => ?_
      obtain ⟨g1, g2, g3⟩ := q3 j hj
      dsimp only
      refine ⟨?_, g2, g3⟩
      · rw [getD_setI (by show 1 < _; omega)]
        split <;> omega
    · simpa using gl
    · dsimp only; rw [g1]; omega
    · dsimp only
      rw [getD_setI (by show 1 < _; omega), if_pos (show 1 = Int.toNat 1 from rfl)]
    · dsimp only; omega
end Go.Proofs.Ytofccajdoekjgaa.PulseT
