/- Cuts: the right ones, from one to the next. -/
import Derived.Test.YtdahfpfkjljojaaCutD
import Derived.Test.YtdahfpfkjljojaaEnum
open Go Go.Proofs.Ytdahfpfkjljojaa.Sy Go.Proofs.Ytdahfpfkjljojaa.Pu
set_option linter.unusedVariables false
set_option linter.unusedSimpArgs false
namespace Go.Proofs.Ytdahfpfkjljojaa.Ct
open Go.Proofs.Ytdahfpfkjljojaa.Vc (EV dE z6 evp evk evm VectRun cnt cntV chkF withinF maxV minV)
section
variable {h : List EV} {v : List (List Int)} {st : List (List (List Int))}
theorem Cx.run (X : Cx h v st) : VectRun h v := by
  obtain ⟨e1, hg, hv⟩ := Vc.vectorsF_ok X.chk
  have := X.vec
  rw [e1] at this
  rw [← (Prod.mk.inj this).1]
  exact hv
/-- What has come up to a time is a right cut. -/
theorem closed_pref (X : Cx h v st) (k : Nat) (hk : k ≤ h.length) : Closed (SF st) (fun p => cnt h (p : Int) k) := by
  intro p hp h0 j hj
  dsimp only at h0 ⊢
  have hmono : cnt h (p : Int) k ≤ cnt h (p : Int) h.length := Vc.cnt_mono hk
  obtain ⟨i, i1, i2, i3, i4⟩ := SF_at X.s (by omega : 1 ≤ cnt h (p : Int) k) hmono
  rw [i4]
  have b := (Vc.vect_count X.good X.run i i1).1 (j : Int) (by omega) (by omega)
  rw [Int.toNat_natCast] at b
  have hik : i < k := by
    refine Classical.byContradiction fun hn => ?_
    have : cnt h (p : Int) k ≤ cnt h (p : Int) i := Vc.cnt_mono (by omega)
    omega
  have : cnt h (j : Int) (i + 1) ≤ cnt h (j : Int) k := Vc.cnt_mono (by omega)
  omega
theorem valid_pref (X : Cx h v st) (k : Nat) (hk : k ≤ h.length) : Valid (NF h) (cntV h k) := by
  refine ⟨cntV_len h k, fun j hj => ?_⟩
  rw [Vc.cntV_at hj]
  exact ⟨Vc.cnt_nonneg, Vc.cnt_mono hk⟩
theorem closed_congr {S : Nat → Int → Nat → Int} {c d : Nat → Int} (e : ∀ j, j < 6 → c j = d j) (hc : Closed S c) : Closed S d := by
  intro p hp h0 j hj
  rw [← e p hp] at h0 ⊢
  rw [← e j hj]
  exact hc p hp h0 j hj
theorem closed_cntV (X : Cx h v st) (k : Nat) (hk : k ≤ h.length) : Closed (SF st) ((cntV h k).getD · 0) :=
  closed_congr (fun j hj => (Vc.cntV_at hj).symm) (closed_pref X k hk)
/-- A right cut that is not the end has one event more. -/
theorem closed_step (X : Cx h v st) {c : Nat → Int} (hr : ∀ j, j < 6 → 0 ≤ c j ∧ c j ≤ NF h j) (hc : Closed (SF st) c) (hn : ∃ j, j < 6 ∧ c j < NF h j) : ∃ p, p < 6 ∧ c p < NF h p ∧ Closed (SF st) (fun j => if j = p then c j + 1 else c j) := by
  obtain ⟨j0, j1, j2⟩ := hn
  have hg := X.good
  obtain ⟨i, ⟨hi, hci⟩, hmin⟩ := exists_min (P := fun i => i < h.length ∧ c (evp h i).toNat ≤ cnt h (evp h i) i) (by
    obtain ⟨i, i1, i2, i3⟩ := ev_at (h := h) (p := (j0 : Int)) (m := c j0 + 1) (by have := (hr j0 j1).1; omega) h.length (by have : c j0 < cnt h (j0 : Int) h.length := j2; omega)
    exact ⟨i, i1, by rw [i2, Int.toNat_natCast, i3]; omega⟩)
  obtain ⟨p0, p6, _, _⟩ := hg.ev i hi
  have hpp : (((evp h i).toNat : Nat) : Int) = evp h i := by omega
  have hbelow : ∀ n, n ≤ i → ∀ q : Nat, q < 6 → cnt h (q : Int) n ≤ c q := by
    intro n
    induction n with
    | zero => intro _ q hq; exact (hr q hq).1
    | succ n ih =>
      intro hni q hq
      rw [cnt_succ]
      have h1 := ih (by omega) q hq
      split
      · rename_i e
        have h2 := hmin n (by omega)
        have h3 : ¬ c (evp h n).toNat ≤ cnt h (evp h n) n := fun hx => h2 ⟨by omega, hx⟩
        rw [e, Int.toNat_natCast] at h3
        omega
      · omega
  have hcp : cnt h (evp h i) i = c (evp h i).toNat := by
    have := hbelow i (Nat.le_refl _) (evp h i).toNat (by omega)
    rw [hpp] at this
    omega
  have hlt : c (evp h i).toNat < NF h (evp h i).toNat := by
    have h1 := cnt_succ h (evp h i) i
    rw [if_pos rfl] at h1
    have h2 : cnt h (evp h i) (i + 1) ≤ cnt h (evp h i) h.length := Vc.cnt_mono (by omega)
    show _ < cnt h (((evp h i).toNat : Nat) : Int) h.length
    rw [hpp]
    omega
  refine ⟨(evp h i).toNat, by omega, hlt, fun q hq h0 j hj => ?_⟩
  dsimp only at h0 ⊢
  by_cases e : q = (evp h i).toNat
  · rw [if_pos e, e]
    have hS : SF st (evp h i).toNat (c (evp h i).toNat + 1) j = (v.getD i z6).getD j 0 := by
      have := X.s.at_ i hi
      rw [hcp] at this
      unfold SF
      rw [show c (evp h i).toNat + 1 - 1 = c (evp h i).toNat by omega, this]
    rw [hS]
    have b := (Vc.vect_count hg X.run i hi).1 (j : Int) (by omega) (by omega)
    rw [Int.toNat_natCast, cnt_succ] at b
    have b2 := hbelow i (Nat.le_refl _) j hj
    by_cases e2 : j = (evp h i).toNat
    · rw [if_pos e2]
      split at b <;> omega
    · rw [if_neg e2]
      rw [if_neg (fun hx => e2 (by omega))] at b
      omega
  · rw [if_neg e] at h0 ⊢
    have := hc q hq h0 j hj
    split <;> omega
end
end Go.Proofs.Ytdahfpfkjljojaa.Ct
